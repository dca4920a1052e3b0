/- An abstract machine, and what of the given program it does, part 10. Conditions: none. -/
import Derived.Test.YtmmplkgkkkjojaaGreatDoorAm8
import Derived.Shelf.SlSortCmp.WholeK
import Derived.Shelf.SlSortCmp.NoneTotal
import Derived.Shelf.Spec.SlicesInsert
import Derived.Lib.AppendZerosOnto
import Derived.Laws.NewBlocks
set_option linter.unusedSimpArgs false
set_option linter.unusedVariables false
namespace AM
open List renaming map_cons -> aKB,mem_cons -> aKC,getElem?_eq_getElem -> aKD,length_cons -> aKE,cons_append -> aKF,mem_cons_of_mem -> aKG,nil_append -> aKJ,size_toArray -> aKL,append_assoc -> aKM,drop_zero -> aKN,take_of_length_le -> aKO,mem_map -> aKP,map_congr_left -> aKQ,mem_append -> aKS,range -> aKW,getElem?_take -> aKX,pairwise_cons -> aKY,drop_succ_cons -> aK2,getElem?_eq_some_iff -> aK3,length_nil -> aK4,flatten_cons -> aK6,foldr_cons -> aK7,mem_of_getElem? -> aK9,getElem?_eq_none -> aLa,mem_flatMap -> aLc,mem_filter -> aLd,length_map -> aLe,push_toArray -> aLh,append_toArray -> aLi,take_succ_cons -> aLj,mem_of_mem_drop -> aLk,mem_append_left -> aLl,getElem?_cons_zero -> aLm,getElem?_cons_succ -> aLn
open Nat renaming add_mul -> aKH,zero_add -> aKK,add_assoc -> aKR,le_trans -> aKT,le_refl -> aKV,zero_le -> aKZ,mul_le_mul_right -> aK5
open Bool renaming and_eq_true -> aKI,false_eq_true -> aKU
open Array renaming getElem?_eq_some_iff -> aK8,getElem?_eq_getElem -> aLb,replicate_succ -> aLf,replicate_zero -> aLg
open Go
theorem ajp{P:Program}{gl:cQ}{S E sz fz l:Nat}{d:List cW}{n:cW}(h:Jc P fz l S E sz d n=true)(g:∀k,qw sz k=true->su d n k)
  {H:List ay}{id mid m:Nat}{es:List (AV×AV)}(p:H[id]?=some (.cells [.map mid]))(q:H[mid]?=some (.map m es))(s:∀e∈es,fo e.2=true)(o:∀e∈es,qw sz e.1=true)(u:es.length<=M) :
  bB P gl fz [.aS sz,.fn l [.ptr id 0]] H λr H'=>(es=[]/\r=.aS sz/\H'=H)\/(es≠[]/\∃ks:List AV,ks.Perm (es.map (·.1))/\r=.bI H.length 0 ks.length sz/\H'=H++[.buf E (ks.map AV.cells).flatten,.dead]):=by
 simp only[Jc,aKI]at h;obtain⟨⟨⟨⟨⟨v,w⟩,x⟩,y⟩,a⟩,b⟩:=h;obtain⟨i,z,ej⟩:=asN v;split at a
 case h_2=>cases a
 rename_i fn A;split at b
 case h_2=>cases b
 rename_i G j;simp only[aKI]at a b;obtain⟨a,f⟩:=a;obtain⟨b,B⟩:=b;split at a
 case h_2=>cases a
 rename_i c C;split at b
 case h_2=>cases b
 rename_i J D;split at f
 case h_2=>cases f
 rename_i t F;simp only[beq_iff_eq]at f;subst f;exact asH ej w A C (by apply Array.ext';simpa using F) a j D (by apply Array.ext';simpa using B) b x y p q s (λe he=>g _ (o e he)) o u
theorem ajq{α β:Type}{f:α->β}:∀{l:List α}{ks:List β},ks.Perm (l.map f)->∃c:List α,c.Perm l/\ks=c.map f:=by
 intro l ks h;obtain⟨c,d,e⟩:∃c:List α,c.map f=ks/\c.Perm l:=by
  generalize hm:l.map f=m at h;induction h generalizing l with
  |nil=>simp_all|cons x h ih =>
   cases l with
   |nil=>cases hm|cons y r =>
    simp only[aKB,List.cons.injEq]at hm;obtain⟨g,d,e⟩:=ih hm.2;exact⟨y::g,by rw[aKB,d,hm.1],e.cons _⟩
  |swap x y r =>
   match l,hm with
   |a::b::g,hm =>
    simp only[aKB,List.cons.injEq]at hm;exact⟨b::a::g,by simp_all,.swap _ _ _⟩
  |trans d e i j =>
   obtain⟨s,k,n⟩:=j hm;obtain⟨o,p,q⟩:=i k;exact⟨o,p,q.trans n⟩
 exact⟨c,e,d.symm⟩
theorem ajr:∀l:List ak,((l.map AV.str).map AV.cells).flatten=im l
 |[]=>rfl|s::r=>by simp only[aKB,aK6,ajr r,im];rfl
def qQ(x:bR):AV:=.agg [.str x.src,.str x.dst,.bool x.neg]
theorem aHZ:∀l:List bR,((l.map qQ).map AV.cells).flatten=fW l
 |[]=>rfl|s::r=>by simp only[aKB,aK6,aHZ r,fW,qQ,AV.cells];rfl
theorem ajs:∀l:List bR,((l.map bR.enc).map AV.cells).flatten=fW l
 |[]=>rfl|s::r=>by simp only[aKB,aK6,ajs r,fW,bR.enc,AV.cells];rfl
section
variable {α:Type}{lt:α->α->Bool}
def y2(lt:α->α->Bool)(l:List α):Prop:=l.Pairwise λa b=>lt a b=true
theorem Sn(ax:Sort.SWO lt):∀{l m:List α},y2 lt l->y2 lt m->(∀x,x∈l↔x∈m)->l=m
 |[],[],_,_,_=>rfl|[],y::m,_,_,h=>by have:=(h y).2 be;cases this|x::l,[],_,_,h=>by have:=(h x).1 be;cases this|x::l,y::m,h1,f,h=>by
  have a:=aKY.1 h1;have b:=aKY.1 f;have g:x=y:=by
   have i:=(h x).1 be;have j:=(h y).2 be;rcases aKC.1 i with e|e
   ·exact e
   ·rcases aKC.1 j with c|c
    ·exact c.symm
    ·have k:=b.1 x e;have n:=a.1 y c;have:=ax.trans _ _ _ k n;rw[ax.irrefl]at this;cases this
  subst g;rw[Sn ax a.2 b.2 λz=>?_];have d:=h z;constructor
  ·intro hm;rcases aKC.1 (d.1 (aKG _ hm))with e|e
   ·subst e;have:=a.1 z hm;rw[ax.irrefl]at this;cases this
   ·exact e
  ·intro hm;rcases aKC.1 (d.2 (aKG _ hm))with e|e
   ·subst e;have:=b.1 z hm;rw[ax.irrefl]at this;cases this
   ·exact e
theorem ajt[Inhabited α](ax:Sort.SWO lt)(k:∀a b,lt a b=false->lt b a=false->a=b){l:List α}(n:l.Nodup):y2 lt (Sort.sort lt l.toArray).toList/\∀x,x∈(Sort.sort lt l.toArray).toList↔x∈l:=by
 obtain⟨ar,d⟩:=Sort.sort_sorts lt ax l.toArray;obtain⟨m,hm⟩:=toA (Sort.sort lt l.toArray);rw[hm]at ar d ⊢;have f:m.length=l.length:=by simpa using ar.1
 have c:m.Perm l:=by
  have:=ar.2.2;rw[aKL,<-f]at this;have e:∀x:List α,(x.toArray.extract 0 x.length).toList=x:=λx=>by simp
  rw[e m,f,e l]at this;exact this
 have o:m.Nodup:=c.nodup_iff.2 n;refine⟨?_,λx=>c.mem_iff⟩;refine List.pairwise_iff_getElem.2 λi j al g p=>?_;have r:j<m.length:=g;have h:=d i j (aKZ _) p (by rw[aKL];omega);rw[ajh,ajh,getElem!_pos m i al,getElem!_pos m j g]at h;cases q:lt m[i] m[j]with
 |true=>rfl|false =>
  have:=k _ _ q h;have:=(List.getElem_inj o).1 this;omega
def nO[DecidableEq α](lt:α->α->Bool)(x:α):List α->List α
 |[]=>[x]|t::r=>if x=t then t::r else if lt x t then x::t::r else t::nO lt x r
variable {x:α}
theorem Sp[DecidableEq α]{y:α}:∀{l:List α},y∈nO lt x l↔y=x\/y∈l
 |[]=>by simp[nO]|t::r=>by
  rw[nO];split
  ·simp_all
  ·split
   ·simp
   ·simp only[aKC,Sp (l:=r)];constructor
    ·rintro(h|h|h)<;>simp[h]
    grind
theorem ajv[DecidableEq α](ax:Sort.SWO lt)(f:∀a b,lt a b=false->lt b a=false->a=b) :∀{l:List α},y2 lt l->y2 lt (nO lt x l)
 |[],_=>by simp[nO,y2]|t::r,h=>by
  have p:=aKY.1 h;rw[nO];split
  ·exact h
  ·rename_i cG;split
   ·rename_i c;refine aKY.2 ⟨λy d=>?_,h⟩;rcases aKC.1 d with e|e
    ·rw[e];exact c
    ·exact ax.trans _ _ _ c (p.1 y e)
   ·rename_i c;refine aKY.2 ⟨λy d=>?_,ajv ax f p.2⟩;rcases Sp.1 d with e|e
    ·grind
    ·exact p.1 y e
theorem GS[DecidableEq α](ax:Sort.SWO lt)(c:∀a b,lt a b=false->lt b a=false->a=b):∀(xs acc:List α),y2 lt acc->y2 lt (xs.foldl (λa x=>nO lt x a) acc)/\∀y,y∈xs.foldl (λa x=>nO lt x a) acc↔y∈xs\/y∈acc
 |[],acc,h=>⟨h,λy=>be⟩|x::xs,acc,h=>by
  obtain⟨d,e⟩:=GS ax c xs (nO lt x acc) (ajv ax c h);refine⟨d,λy=>?_⟩;rw[List.foldl_cons,e y,Sp,aKC];constructor
  ·rintro(h|h|h)<;>simp[h]
  ·rintro((h|h)|h)<;>simp[h]
end
theorem Sq(a b:ak)(c:ng a b=false)(d:ng b a=false):a=b:=by
 rw[ajj]at c d;have:=CY a b;simp only[decide_eq_false_iff_not]at c d;exact mY.1 am
theorem Sr(a b:bR)(c:p3 a b=false)(d:p3 b a=false):a=b:=by
 have:=Sf a b;simp only[decide_eq_false_iff_not]at c d;exact La am
theorem Ss(s:ak):∀l,xf s l=nO ng s l
 |[]=>rfl|t::r=>by rw[xf,nO,Ss s r]
instance:DecidableEq bR:=λa b=>decidable_of_iff (lP a b=0) ⟨La,λh=>by rw[h];exact ajl b⟩
theorem St(x:bR):∀l,xg x l=nO p3 x l
 |[]=>rfl|t::r=>by
  rw[xg,nO,St x r];by_cases h:x=t
  ·subst h;rw[if_pos (ajl x),if_pos rfl]
  ·rw[if_neg (λe=>h (La e)),if_neg h];simp
variable {l:List aU}
theorem aH0{ks:List ak}(b:ks.Nodup)(hm:∀x,x∈ks↔x∈uc l):(Sort.sort ng ks.toArray).toList=il l:=by
 obtain⟨c,d⟩:=ajt GQ Sq b;have e:il l=(uc l).foldl (λa x=>nO ng x a) []:=by
  simp[il,Ss]
 obtain⟨f,g⟩:=GS GQ Sq (uc l) [] List.Pairwise.nil;rw[e];exact Sn GQ c f λx=>by rw[d,g,hm];simp
theorem aH1{ks:List bR}(b:ks.Nodup)(hm:∀x,x∈ks↔x∈lp l):(Sort.sort p3 ks.toArray).toList=mv l:=by
 obtain⟨c,d⟩:=ajt A2 Sr b;have e:mv l=(lp l).foldl (λa x=>nO p3 x a) []:=by
  simp[mv,St]
 obtain⟨f,g⟩:=GS A2 Sr (lp l) [] List.Pairwise.nil;rw[e];exact Sn A2 c f λx=>by rw[d,g,hm];simp
def iq(l:List bR):List (AV×AV):=l.map λx=>(qQ x,.bool true)
def xm(x:bR):List bR->List bR
 |[]=>[x]|y::r=>if LO (qQ x) (qQ y)then x::y::r else y::xm x r
def uf(l:List bR)(x:bR):List bR:=if x∈l then l else xm x l
def GU(n:Nat)(l:List bR)(x:bR):Nat:=if x∈l then n else n+1
theorem Su(x y:bR):dS (qQ x) (qQ y)=decide (x=y):=by
 obtain⟨a,b,c⟩:=x;obtain⟨d,e,f⟩:=y;simp only[qQ,dS,eqs,q7,bR.mk.injEq];by_cases g:a=d<;>by_cases h:b=e<;>by_cases i:c=f<;>simp[g,h,i]
theorem ajw:∀(l:List bR)(x:bR),hl (iq l) (qQ x)=if x∈l then some (.bool true)else none
 |[],_=>rfl|y::r,x=>by
  have ih:=ajw r x;simp only[iq]at ih;simp only[iq,aKB,hl,Su,ih,decide_eq_true_eq,aKC];by_cases h:x=y<;>simp[h]
theorem ajx:∀{l:List bR}{x:bR},x∈l->jv (iq l) (qQ x) (.bool true)=iq l
 |y::r,x,h=>by
  by_cases e:x=y
  ·simp_all[iq,jv,Su]
  ·have ih:=ajx (l:=r) (x:=x) (by simpa[e]using h);simp only[iq]at ih;simp only[iq,aKB,jv,Su,e,decide_false,aKU,if_false,ih]
theorem ajy:∀(l:List bR)(x:bR),uv (iq l) (qQ x) (.bool true)=iq (xm x l)
 |[],_=>rfl|y::r,x=>by
  have ih:=ajy r x;simp only[iq]at ih;simp only[iq,aKB,uv,xm];split
  ·rfl
  simp_all
theorem aH2(n:Nat)(l:List bR)(x:bR):pr n (iq l) (qQ x) (.bool true)=.map (GU n l x) (iq (uf l x)):=by
 rw[pr,ajw,GU,uf];by_cases h:x∈l
 ·simp only[h,if_true,ajx h]
 ·simp only[h,if_false,ajy]
theorem aH3(l:List bR):lr [1,1,2] (iq l)=true:=by cases l<;>rfl
variable {id n:Nat}{H:List ay}{l:List bR}
theorem aH4{a b:ak}{c:Bool} :va [1,1,2] (.agg [.str a,.str b,.bool c]) (.bool true) id H (some (.map n (iq l)))=some (H.set id (.map (GU n l ⟨a,b,c⟩) (iq (uf l ⟨a,b,c⟩)))):=by
 have h:fE [1,1,2] (.agg [.str a,.str b,.bool c])=true:=rfl;have e:pr n (iq l) (.agg [.str a,.str b,.bool c]) (AV.a1 (.bool true))=.map (GU n l ⟨a,b,c⟩) (iq (uf l ⟨a,b,c⟩)):=aH2 n l ⟨a,b,c⟩;simp only[va,aH3,h,Bool.and_self,if_true,e]
variable {x y:bR}
theorem ajz :∀{l:List bR},y∈xm x l↔y=x\/y∈l
 |[]=>by simp[xm]|t::r=>by
  rw[xm];split
  ·simp
  ·simp only[aKC,ajz (l:=r)];constructor
   ·rintro(h|h|h)<;>simp[h]
   grind
theorem Sv :∀{l:List bR},(xm x l).Perm (x::l)
 |[]=>.refl _|t::r=>by
  rw[xm];split
  ·exact .refl _
  ·exact(Sv.cons t).trans (.swap x t r)
theorem aH5 :y∈uf l x↔y=x\/y∈l:=by
 unfold uf;split
 ·grind
 ·exact ajz
theorem aH6(h:l.Nodup)(x:bR):(uf l x).Nodup:=by
 unfold uf;split
 ·exact h
 ·rename_i ah;exact(Sv.nodup_iff).2 (List.nodup_cons.2 ⟨ah,h⟩)
theorem aH7(l:List bR)(x:bR):(uf l x).length<=l.length+1:=by
 unfold uf;split
 ·omega
 ·rw[Sv.length_eq];simp
def sK(l:List bR):List bR:=l
theorem ajA:∀l:List ak,chunk 1 l.length (im l)=l.map AV.str
 |[]=>rfl|t::r=>by
  simp only[aKE,chunk,im,aKB,if_true,List.headD_cons,aK2,aKN,ajA r]
theorem ajB:∀l:List ak,(im l).map AV.a1=im l
 |[]=>rfl|t::r=>by simp only[im,aKB,ajB r];rfl
theorem ajC:∀l:List ak,(im l).all AV.eH=true
 |[]=>rfl|t::r=>by simp only[im,List.all_cons,ajC r];rfl
variable {t e:Nat}
theorem aH8{l:Env}{m:List ak}(h:m.length=n/\n<=M):pU l H t e 1 id n 1 (some (.buf e (im m)))=some ⟨N ((t,.v (.list (some e) 1 (m.map AV.str)))::l),H.set id .dead⟩:=by
 obtain⟨h,a⟩:=h;subst h;have b:(im m).take m.length=im m:=aKO (by rw[GP];omega);simp only[pU,Nat.mul_one,b,ajB,ajC,GP,true_and,aKV,a,if_true,ajA];simp only[b7,aK7]
theorem ajD:∀l:List bR,chunk 3 l.length (fW l)=l.map bR.enc
 |[]=>rfl|t::r=>by
  simp only[aKE,chunk,fW,aKB,bR.enc];simp[ajD]
theorem ajE:∀l:List bR,(fW l).map AV.a1=fW l
 |[]=>rfl|t::r=>by simp only[fW,aKB,ajE r];rfl
theorem ajF:∀l:List bR,(fW l).all AV.eH=true
 |[]=>rfl|t::r=>by simp only[fW,List.all_cons,ajF r];rfl
theorem aH9{l:Env}{m:List bR}(h:m.length=n/\n<=M):pU l H t e 3 id n 3 (some (.buf e (fW m)))=some ⟨N ((t,.v (.list (some e) 3 (m.map bR.enc)))::l),H.set id .dead⟩:=by
 obtain⟨h,a⟩:=h;have b:(fW m).take (n*3)=fW m:=aKO (by rw[Dx,h];omega);simp only[pU,b,ajE,ajF,Dx,h,true_and,aKV,a,if_true];rw[<-h,ajD];simp only[b7,aK7]
attribute [go_sem 3000] aH8 aH9 aH4
open Go Go.Proofs Go.Sort Go.Shelf
def A4(x:bR):List Value:=[.string ⟨x.src.toArray⟩,.string ⟨x.dst.toArray⟩,.bool x.neg]
def vk:AV->Value|.str s=>.string ⟨s.toArray⟩|.bool b=>.bool b|_=>.bool false
theorem GV:∀(l:List bR)c,c∈fW l->(∃s,c=.str s/\∃x∈l,s=x.src\/s=x.dst)\/∃b,c=.bool b
 |[],c,h=>by cases h|x::r,c,h=>by
  simp only[fW,aKC]at h;rcases h with rfl|rfl|rfl|h
  ·exact .inl ⟨_,rfl,x,be,.inl rfl⟩
  ·exact .inl ⟨_,rfl,x,be,.inr rfl⟩
  ·exact .inr ⟨_,rfl⟩
  ·rcases GV r c h with⟨s,e,y,a,ax⟩|h
   ·exact .inl ⟨s,e,y,aKG _ a,ax⟩
   ·exact .inr h
theorem ajH:∀(l:List bR)(t:Nat),t<l.length*3->((fW l).map vk)[t]! = (A4 l[t / 3]!)[t % 3]!
 |[],t,h=>by simp at h|x::r,0,_=>rfl|x::r,1,_=>rfl|x::r,2,_=>rfl|x::r,t+3,h=>by
  have:=ajH r t (by simp only[aKE]at h;omega);rw[show(t+3) / 3=t / 3+1 by omega,show(t+3) % 3=t % 3 by omega];simpa[fW]using this
theorem ajI(l:List bR):flatK A4 3 l.toArray=((fW l).map vk).toArray:=by
 refine ext_get! (by simp[Dx]) λt b=>?_;have a:t<l.length*3:=by simpa using b
 rw[get_flatK _ _ _ t kO];have:=ajH l t a;have al:t / 3<l.length:=by omega
 simp only[List.getElem!_toArray]at this ⊢;rw[this]
section
variable {α:Type}[Inhabited α]{w:World}{g n:Nat}{os:Array Obj}{cur:Array Value}{e:TypeId}{dP:Nat×Nat}(enc:α->Value)(d:Array α)
theorem aId(ae:w.heap[g]?=some (.cells cur e dP)):(grow (putRow enc (Sort.ahead w n) g 0 d) os).heap[g]?=some (.cells (putCells enc 0 d cur) e dP):=by
 have a:g<w.heap.size:=(aK8.1 ae).1;rw[heap_grow_old _ _ (by simp_all)];simp[putRow,mapBlock,Sort.ahead,Array.getElem?_modify,ae,onCells]
theorem aIe:w.grownBy (grow (putRow enc (Sort.ahead w n) g 0 d) os) (some g):=by
 refine⟨rfl,rfl,rfl,be,λk hk cG=>?_⟩;rw[heap_grow_old _ _ (by simp_all)];have:g≠k:=λe=>cG (by rw[e]);simp[putRow,mapBlock,Sort.ahead,Array.getElem?_modify,this]
end
variable {P:Program}{gl:cQ}{cg:Ren}{f:Nat}
theorem aIf(L:SlLaysF0.n6 P cg)(z:∀w,(isAgg (cg.t 24)).run P w=.ok true w)(A:∀w,(Go.sizeOf (cg.t 24)).run P w=.ok 3 w)(B:∀args w,(callFunc f args).run P w=.ok (.enter f args) w)
  (C:∀(x y:bR)(W:World),Calls P f #[.agg (A4 x).toArray,.agg (A4 y).toArray] W λe w'=>e=.returned (.int .i64 (lP x y))/\∃q V,w'=grow (W.drewN q) V)
  (Y:kR P (cg.f 6)=true)(J:H[id]?=some (.buf e (fW l)))(bw:l.length<=M) :
  bB P gl (cg.f 6) [.bI id 0 l.length 3,.fn f []] H λr H'=>r=.bg []/\H'=H.set id (.buf e (fW (Sort.sort p3 l.toArray).toList)):=by
 have cP:M=1099511627776:=rfl;refine⟨Y,λg w vs d D _=>?_⟩;cases D with
 |cons _ _ v ws u D =>
  cases D with
  |cons _ _ v2 ws Z ob =>
   cases ob;obtain⟨b,k,cap,K,av,aQ,bG,rfl⟩:=u.ti;have GW:v2=.func (.func f) #[] #[]:=by
    cases Z with
    |pure _ _ h=>cases h|fn _ _ ws h=>cases h;rfl
   subst GW;obtain⟨E,k',bT,b8,⟨arr,ty,p,z2,z3,z4,z5⟩,⟨sh,O,eN⟩,_⟩:=d.heap id _ J;obtain rfl:E=b:=Option.some.inj (bT.symm.trans K);obtain⟨rfl,rfl,_⟩:arr=sh/\ty=e/\True:=by rw[p]at O;simp only[Option.some.injEq,Obj.cells.injEq]at O;omega
   have j1:=Dx l;have F:∀(j:Nat)c,(fW l)[j]?=some c->arr[j]?=some (vk c)/\∀s,c=.str s->s.length<=M:=λj c o=>by
    obtain⟨v,G,aV,Q,c5⟩:=z5 j c o;rcases GV l c (aK9 o)with⟨s,rfl,_⟩|⟨x,rfl⟩
    ·obtain⟨rfl,aC⟩:=Q.mG;exact⟨G,λs' h=>by cases h;exact aC⟩
    ·rw[Q.oO]at G;exact⟨G,λs h=>d6⟩
   have bJ:=(aK8.1 p).1;have hH:HoldsK A4 3 w E 0 l.toArray:=λj o=>by
    rw[ajI]at o ⊢;have R:j<(fW l).length:=by simpa using o
    have hd:((fW l).map vk).toArray[j]! = vk (fW l)[j]:=by simp[getElem!_pos,R]
    have a:=(F j _ (aKD R)).1;rw[hd,aKK];have ab:arr.toList.take (fW l).length=(fW l).map vk:=by
     apply List.ext_getElem?;intro i;by_cases al:i<(fW l).length
     ·rw[List.getElem?_take_of_lt al,Array.getElem?_toList,(F i _ (aKD al)).1,List.getElem?_map,aKD al];rfl
     ·rw[List.getElem?_take_eq_none am,aLa d9]
    unfold World.cell? World.frozen?;rw[p];simp only[a];exact⟨rfl,rfl⟩
   have hO:SWO (ltOf lP):=A2;refine(AnyQ.slices_SortFunc_eq L 3 z A A4 (λ_=>rfl) (λx v u=>by simp only[A4,aKC,List.not_mem_nil,or_false]at u;rcases u with rfl|rfl|rfl<;>rfl) lP hO f #[] E 0 cap l.toArray w B (λm os aO4 _ x y=>C x y _) hH bJ d9).mono ?_;rintro cB w' ⟨rfl,n,os,rfl⟩;obtain⟨X,bA⟩:∃X,X=(Sort.sort p3 l.toArray).toList:=⟨_,rfl⟩;have Sl:pdq (ltOf lP) l.toArray 0 l.toArray.size (Lib.bitLen l.toArray.size) true true=X.toArray:=by
    rw[bA,bitLen_eq _ (by simp only[aKL];omega)];rfl
   have S:X.Perm l:=by
    obtain⟨ar,_⟩:=Sort.sort_sorts p3 A2 l.toArray;obtain⟨m,hm⟩:=toA (Sort.sort p3 l.toArray);rw[hm]at ar;rw[bA,hm];have T:m.length=l.length:=by simpa using ar.1
    have:=ar.2.2;rw[aKL,<-T]at this;have e:∀x:List bR,(x.toArray.extract 0 x.length).toList=x:=λx=>by simp
    rw[e m,T,e l]at this;exact this
   rw[Sl];have y1:X.length=l.length:=S.length_eq;have aO5:=Dx X;unfold sortWorldK putRowK;rw[ajI];obtain⟨g1,g2⟩:=d.ajn (cs':=fW X) J K p (aId _root_.id ((fW X).map vk).toArray p) (by simp[putCells]) (aIe _ _) am (λi c a=>by
    have al:i<(fW X).length:=(aK3.1 a).1;have yS:i<arr.size:=by omega
    refine⟨vk c,?_,?_,?_,?_⟩
    ·have By:((fW X).map vk).toArray[i]! = vk c:=by
      rw[aKD al]at a;simp only[Option.some.injEq]at a;simp[getElem!_pos,al,a]
     rw[aKD al]at a;simp only[Option.some.injEq]at a;simp[putCells,yS,al,a]
    ·rcases GV X c (aK9 a)with⟨s,rfl,_⟩|⟨x,rfl⟩<;>rfl
    ·rcases GV X c (aK9 a)with⟨s,rfl,x,ah,ax⟩|⟨x,rfl⟩
     ·refine .pure _ _ (.str _ ?_);have hm:x∈l:=S.mem_iff.1 ah;have Ld:∀(l:List bR),x∈l->AV.str s∈fW l:=λl=>by
       induction l with
       |nil=>intro h;cases h|cons y r ih =>
        intro h;simp only[fW,aKC];rcases aKC.1 h with rfl|h
        ·rcases ax with rfl|rfl<;>simp
        ·exact .inr (.inr (.inr (ih h)))
      obtain⟨j,o⟩:=List.getElem?_of_mem (Ld l hm);exact(F j _ o).2 s rfl
     ·exact .pure _ _ (.bool _)
    ·rcases GV X c (aK9 a)with⟨s,rfl,_⟩|⟨x,rfl⟩
     ·exact zp _
     ·exact λ_ _ _ h=>d6)
   exact⟨_,.bg [],_,g,rfl,⟨rfl,by rw[<-bA];rfl⟩,g1,g2,.bg [] [] .nil,fC.mE be⟩
theorem aIk(L:SlLaysF0.n6 P cg)(c:kR P (cg.f 6)=true)(H:List ay):bB P gl (cg.f 6) [.aS 3,.fn f []] H λr H'=>r=.bg []/\H'=H:=by
 refine⟨c,λg w vs a b _=>?_⟩;cases b with
 |cons _ _ v ws d b =>
  cases b with
  |cons _ _ v2 ws j i =>
   cases i;cases d with
   |pure _ _ h =>
    cases h;refine(AnyF.slices_SortFunc_none L none 0 v2 w).mono ?_;rintro e w' ⟨rfl,rfl⟩;exact⟨_,.bg [],_,g,rfl,⟨rfl,rfl⟩,eL.refl _ _,a,.bg [] [] .nil,fC.mE be⟩
def vl(x y:List UInt8):Int:=if Op.bytesLess x y=true then -1 else if(Op.bytesLess x y||x==y)=false then 1 else 0
def Dz(c d:Int):Int:=if c≠0 then c else d
structure ajJ(p:Prop):Prop where
 h:p
theorem Sx(W:World)(A:Array Value)(e:TypeId)(i:Nat):(W.alloc (.cells A e (0,0))).cell? ⟨W.heap.size,i,none⟩=A[i]?:=by
 unfold World.cell? World.alloc;simp only[Array.getElem?_push_size];rfl
variable {v:Value}
theorem ajK(W:World)(o:Obj){a:Addr}(h:W.cell? a=some v):(W.alloc o).cell? a=some v:=by
 have b:a.block<W.heap.size:=World.block_lt_of_cell? W a h;rw[World.cell?_of_block (w:=W) (by simp only[World.alloc];exact Array.getElem?_push_lt b▸(aLb b).symm)];exact h
theorem DA(W:World)(d:Nat)(a:Addr):({ W with drawn:=d }:World).cell? a=W.cell? a:=rfl
theorem aIl(W:World)(A B:Array Value)(e:TypeId)(i:Nat):((W.alloc (.cells A e (0,0))).alloc (.cells B e (0,0))).cell? ⟨W.heap.size,i,none⟩=A[i]?/\((W.alloc (.cells A e (0,0))).alloc (.cells B e (0,0))).cell? ⟨W.heap.size+1,i,none⟩=B[i]?:=by
 constructor
 ·unfold World.cell? World.alloc;simp only[Array.getElem?_push,Array.size_push];rw[if_neg am,if_pos trivial];rfl
 ·have:=Sx (W.alloc (.cells A e (0,0))) B e i;rwa[show(W.alloc (.cells A e (0,0))).heap.size=W.heap.size+1 from Array.size_push _]at this
theorem ajL(x y:ak):vl x y=du x y:=by
 rw[vl,CN];cases a:Op.bytesLess x y with
 |true=>rfl|false =>
  simp only[aKU,if_false,Bool.false_or];cases b:Op.bytesLess y x with
  |true =>
   have cG:(x==y)=false:=by
    rw[beq_eq_false_iff_ne];grind
   rw[cG];rfl
  |false =>
   have c:du x y=0:=by rw[CN,a,b];rfl
   have:x=y:=mY.1 c;rw[this];simp
theorem aIm(x y:bR):lP x y=Dz (Dz (vl x.src y.src) (vl x.dst y.dst)) (if x.neg=y.neg then 0 else if y.neg=true then -1 else 1):=by
 rw[ajL,ajL,lP];unfold Dz;by_cases a:du x.src y.src=0
 ·by_cases b:du x.dst y.dst=0
  ·simp[a,b]
  ·simp[a,b]
 ·simp[a]
open Enc (enc)
theorem ajT(lev:List (ak×Int))(s:ak)(v:Int)(t:ak):mw (fV lev s v) t=if t=s then v else mw lev t:=by
 unfold mw;rw[w5];split<;>rfl
def qS(ns:List ak)(lev:List (ak×Int)):Nat:=(ns.map λs=>(mw lev s).toNat).sum
variable {ns:List ak}{lev:List (ak×Int)}{b:Nat}
theorem aIK(h:∀s,mw lev s<=b):qS ns lev<=ns.length*b:=by
 induction ns with
 |nil=>simp[qS]|cons x r ih =>
  have:=h x;simp only[qS,aKB,List.sum_cons,aKE]at ih ⊢;rw[Nat.succ_mul];omega
variable {s:ak}
theorem ajU{v:Int}(a:0<=mw lev s)(c:mw lev s<v):∀{ns:List ak},qS ns lev<=qS ns (fV lev s v)/\(s∈ns->qS ns lev<qS ns (fV lev s v))
 |[]=>by simp[qS]|x::r=>by
  obtain⟨d,g⟩:=ajU a c (ns:=r);simp only[qS,aKB,List.sum_cons,ajT]at d g ⊢;by_cases ah:x=s
  ·grind
  ·grind
def xp(b:Int)(lev:List (ak×Int)):Prop:=∀s,0<=mw lev s/\mw lev s<=b
theorem ajV{b:Int}(h:xp b lev)(e:bR):0<=AY lev e/\AY lev e<=b+1:=by
 have:=h e.dst;unfold AY;split<;>omega
theorem ajW{b:Int}(h:xp b lev){v:Int}(a:0<=v)(c:v<=b):xp b (fV lev s v):=λt=>by
 rw[ajT];split
 ·exact⟨a,c⟩
 ·exact h t
theorem SF{n:Int} :∀{es:List bR}{lev a:List (ak×Int)}{ch d:Bool},(∀e∈es,e.src∈ns)->xp n lev->p0 n es lev ch=some (a,d) ->
  xp n a/\qS ns lev<=qS ns a/\(d=true->ch=true\/qS ns lev<qS ns a)
 |[],lev,a,ch,d,_,c,h=>by
  simp only[p0,Option.some.injEq,Prod.mk.injEq]at h;obtain⟨rfl,rfl⟩:=h;simp_all
 |e::r,lev,a,ch,d,ax,c,h=>by
  rw[p0]at h;split at h
  ·rename_i g;split at h
   ·cases h
   ·rename_i m;have i:=ajV c e;obtain⟨j,o,_⟩:=SF (λe he=>ax e (aKG _ he)) (ajW c i.1 am) h;obtain⟨p,k⟩:=ajU (ns:=ns) (c e.src).1 g;have:=k (ax e be);exact⟨j,am,λ_=>.inr am⟩
  ·exact SF (λe he=>ax e (aKG _ he)) c h
theorem ajX(c:ns.length=n){es:List bR}(ax:∀e∈es,e.src∈ns):∀(f:Nat){lev:List (ak×Int)},xp n lev->n*n+1<f+qS ns lev->ud n es f lev≠none
 |0,lev,a,h=>by
  have:=aIK (ns:=ns) (b:=n) λs=>(a s).2;rw[c]at this;omega
 |f+1,lev,a,h=>by
  rw[ud];split
  ·simp
  ·rename_i ar;obtain⟨d,i,g⟩:=SF ax a ar;have:=(g rfl).resolve_left be;exact ajX c ax f d am
  ·simp
theorem ajY(n:Nat):xp n []:=λs=>by simp[mw,getM]
variable {l:List aU}
theorem ajZ{x:ak}:x∈il l↔x∈uc l:=by
 have e:il l=(uc l).foldl (λa x=>nO ng x a) []:=by
  simp[il,Ss]
 rw[e,(GS GQ Sq (uc l) [] List.Pairwise.nil).2 x];simp
theorem aIL :x∈mv l↔x∈lp l:=by
 have e:mv l=(lp l).foldl (λa x=>nO p3 x a) []:=by
  simp[mv,St]
 rw[e,(GS A2 Sr (lp l) [] List.Pairwise.nil).2 x];simp
theorem aIM{e:bR}(h:e∈mv l):e.src∈il l/\e.dst∈il l:=by
 rw[aIL]at h;rw[ajZ,ajZ];simp only[lp,aLc,aLd,aKP]at h;obtain⟨r,⟨a,c⟩,x,⟨ah,d⟩,rfl⟩:=h;simp only[uc,aLd,aLc,aKC,aKP];exact⟨⟨⟨r,a,.inl rfl⟩,c⟩,⟨⟨r,a,.inr ⟨x,ah,rfl⟩⟩,d⟩⟩
theorem aIN(l:List aU):∃R,ud (il l).length (mv l) ((il l).length*(il l).length+2) []=some R:=by
 have:=ajX (n:=(il l).length) (ns:=il l) rfl (λe he=>(aIM he).1) ((il l).length*(il l).length+2) (ajY _) am;exact Option.ne_none_iff_exists'.1 this
theorem Le(lev:List (ak×Int))(s:ak):w6 (.int .i64 0) false ((getM lev s).map (AV.int .i64))=.int .i64 (mw lev s):=by
 unfold mw;cases getM lev s<;>rfl
def sL(l:List aU):AV:=match AZ l with
 |none=>.bg [.list none 2 [],.int .i64 10]|some lev=>.bg [.list none 2 (lev.map λp=>(e2.mk p.1 p.2).enc),.int .i64 0]
theorem aj0(s:ak):∀(ls:List e2)(i:Nat),(j7 (λx:e2=>x.name==s) ls i = -1/\p1 (ls.map λx=>(x.name,x.level)) s = -1) \/
  ∃k,k<ls.length/\j7 (λx:e2=>x.name==s) ls i=((i+k:Nat):Int)/\p1 (ls.map λx=>(x.name,x.level)) s=ls[k]!.level
 |[],i=>.inl ⟨rfl,rfl⟩|x::r,i=>by
  rw[j7];by_cases h:x.name=s
  ·have a:(x.name==s)=true:=by simpa using h
   refine .inr ⟨0,be,?_,?_⟩
   ·simp only[a,if_true];rfl
   ·simp[p1,getM,h]
  ·have a:(x.name==s)=false:=by simpa using h
   have g:p1 ((x::r).map λx=>(x.name,x.level)) s=p1 (r.map λx=>(x.name,x.level)) s:=by
    simp only[p1,aKB,getM,Ne.symm h,if_false]
   rw[g];simp only[a,aKU,if_false];rcases aj0 s r (i+1)with⟨d,c⟩|⟨k,d,c,j⟩
   ·exact .inl ⟨d,c⟩
   ·exact .inr ⟨k+1,by simp only[aKE];omega,by rw[c];congr 1;omega,by rw[j];simp⟩
def vm(e:Nat):List Nat->AV
 |[]=>.aS 1|x::r=>.list (some e) 1 ((x::r).map qO)
def nP(lv:Nat->Int)(k n:Nat):List Nat:=(aKW k).filter λi=>lv i==(n:Int)
def k1(e:Nat)(lv:Nat->Int)(S k:Nat):List AV:=(aKW S).map λn=>vm e (nP lv k n)
theorem aj1(lv:Nat->Int)(k n:Nat):nP lv (k+1) n=if lv k=(n:Int)then nP lv k n++[k]else nP lv k n:=by
 rw[nP,List.range_succ,List.filter_append];split
 ·rename_i h;simp[nP,h]
 ·rename_i h;simp[nP,h]
theorem G0(e:Nat)(lv:Nat->Int)(S k:Nat):(k1 e lv S k).length=S:=by simp[k1]
variable {lv:Nat->Int}{S k w:Nat}
theorem SG(h:w<S):(k1 e lv S k)[w]?=some (vm e (nP lv k w)):=by
 simp[k1,h]
theorem aIO(h:lv k<0):k1 e lv S (k+1)=k1 e lv S k:=by
 unfold k1;refine aKQ λn _=>?_;rw[aj1,if_neg am]
theorem aIP(d:lv k=(w:Int))(h:w<S):k1 e lv S (k+1)=(k1 e lv S k).set w (.list (some e) 1 ((nP lv k w).map qO++[qO k])):=by
 apply List.ext_getElem?;intro n;rw[List.getElem?_set,G0];by_cases a:n<S
 ·rw[SG a,aj1,d];by_cases c:w=n
  ·subst c;rw[if_pos rfl,if_pos rfl,if_pos h];cases nP lv k w with
   |nil=>rfl|cons x r=>simp[vm]
  ·rw[if_neg am,if_neg c,SG a]
 ·have g:(k1 e lv S (k+1))[n]?=none:=aLa (by rw[G0];omega);have i:(k1 e lv S k)[n]?=none:=aLa (by rw[G0];omega);rw[g,if_neg am,i]
theorem aIQ(e:Nat)(lv:Nat->Int)(S:Nat):k1 e lv S 0=List.replicate S (.aS 1):=by
 unfold k1;have:(λn=>vm e (nP lv 0 n))=λ_=>AV.aS 1:=rfl;rw[this,List.map_const',List.length_range]
theorem aIR(e:Nat)(r:List Nat):(vm e r).a1.can=ue r:=by
 cases r with
 |nil=>rfl|cons x r =>
  simp only[vm,AV.a1,Ao,ue,List.map_map];rw[show(x::r).map (AV.can∘qO)=(x::r).map qO from aKQ λa _=>by rfl]
theorem aIS(e:Nat)(o:Option Nat)(lv:Nat->Int)(S k:Nat):bx (.list o 1 ((k1 e lv S k).map AV.a1)) (.list none 1 ((aKW S).map λn=>ue (nP lv k n))):=by
 refine Qb ?_;rw[Ao];congr 1
 simp only[k1,List.map_map];exact aKQ λn _=>aIR e _
variable {x:AV}
theorem aIT{cs:List AV}(h:cs[w]?=some x):wV 1 w (some (.buf e cs))=some [x]:=by
 obtain⟨a,c⟩:=aK3.1 h;rw[CR,if_pos am,List.drop_eq_getElem_cons a,c];rfl
theorem aj2(x:AV):∀(cs:List AV)(w:Nat),w<cs.length->setCells cs w [x]=cs.set w x
 |[],w,h=>by simp at h|t::r,0,_=>by simp[setCells]|t::r,w+1,h=>by
  have:=aj2 x r w f8;rfl
theorem aj3{E:Env}{cs:List AV}(h:w<cs.length):tP E H id w [x] (some (.buf e cs))=some ⟨E,H.set id (.buf e (cs.set w x))⟩:=by
 rw[FU,if_pos (by simp only[aKE,aK4];omega),aj2 x cs w h]
theorem aj4:∀cs:List AV,chunk 1 cs.length cs=cs
 |[]=>rfl|t::r=>by simp only[aKE,chunk,if_true,List.headD_cons,aK2,aKN,aj4 r]
theorem aIU{l:Env}{cs:List AV}(h:cs.length=n/\n<=M)(ar:(cs.map AV.a1).all AV.eH=true) :
  pU l H t e 1 id n 1 (some (.buf e cs))=some ⟨N ((t,.v (.list (some e) 1 (cs.map AV.a1)))::l),H.set id .dead⟩:=by
 obtain⟨rfl,a⟩:=h;simp only[pU,Nat.mul_one,List.take_length,ar,true_and,aKV,a,if_true];have:=aj4 (cs.map AV.a1);rw[aLe]at this;rw[this];simp only[b7,aK7]
theorem aIV(e:Nat)(lv:Nat->Int)(S k:Nat):((k1 e lv S k).map AV.a1).all AV.eH=true:=by
 rw[List.all_eq_true];intro x ah;simp only[k1,List.map_map,aKP,Function.comp]at ah;obtain⟨n,_,rfl⟩:=ah;cases nP lv k n<;>rfl
theorem aIW(e:Nat)(r:List Nat):(vm e r=.aS 1/\r.map qO=[])\/vm e r=.list (some e) 1 (r.map qO):=by
 cases r with
 |nil=>exact .inl ⟨rfl,rfl⟩|cons x r=>exact .inr rfl
theorem SH:∀(ls:List (ak×Int))(m:Int),m<=ls.foldl (λm p=>max m p.2) m/\∀p∈ls,p.2<=ls.foldl (λm p=>max m p.2) m
 |[],m=>⟨Int.le_refl _,λp h=>d6⟩|q::r,m=>by
  obtain⟨c,a⟩:=SH r (max m q.2);rw[List.foldl_cons];refine⟨am,λp ar=>?_⟩;rcases aKC.1 ar with rfl|ar
  ·omega
  ·exact a p ar
variable {α:Type}
theorem aj5{v:α}:∀{l:List (ak×α)},getM l s=some v->∃p∈l,p.2=v
 |[],h=>by cases h|(k,u)::r,h=>by
  rw[getM]at h;split at h
  ·simp_all
  ·obtain⟨p,a,c⟩:=aj5 h;exact⟨p,aKG _ a,c⟩
theorem aIX(ls:List (ak×Int))(s:ak):p1 ls s<=xh ls:=by
 unfold p1 xh;obtain⟨a,c⟩:=SH ls (-1);cases h:getM ls s with
 |none=>exact a|some v =>
  obtain⟨p,d,g⟩:=aj5 h;rw[<-g];exact c p d
theorem aj6(x:α):∀n:Nat,(List.replicate n [x]).flatten=List.replicate n x
 |0=>rfl|n+1=>by simp
theorem aIY(lv:Nat->Int)(k n:Nat):(nP lv k n).length<=k:=by
 have:=List.length_filter_le (λi=>lv i==(n:Int)) (aKW k);rw[List.length_range]at this;exact this
def p8(c:Nat->Bool):Nat->Nat->Nat->Nat
 |0,bc,_=>bc|f+1,bc,al=>if bc<al then(if c ((bc+al) / 2)then p8 c f ((bc+al) / 2+1) al else p8 c f bc ((bc+al) / 2))else bc
variable {bc al:Nat}
theorem Hk(c:Nat->Bool)(h:al<=bc):∀f,p8 c f bc al=bc
 |0=>rfl|f+1=>by rw[p8,if_neg am]
theorem LG(c:Nat->Bool):∀f bc al,al-bc<=f->p8 c (f+1) bc al=p8 c f bc al
 |0,bc,al,h=>by rw[Hk c am,Hk c am]|f+1,bc,al,h=>by
  by_cases a:bc<al
  ·rw[p8,if_pos a];conv=>rhs;rw[p8,if_pos a]
   split
   ·exact LG c f _ _ am
   ·exact LG c f _ _ am
  ·rw[Hk c am,Hk c am]
theorem aL4(c:Nat->Bool){f:Nat}(h:al-bc<=f)(a:bc<al):p8 c f bc al=if c ((bc+al) / 2)then p8 c f ((bc+al) / 2+1) al else p8 c f bc ((bc+al) / 2):=by
 cases f with
 |zero=>omega|succ f =>
  conv=>lhs;rw[p8,if_pos a]
  rw[LG c f _ _ am,LG c f _ _ am]
def oH(s:List aY)(v:ak):Nat:=p8 (λk=>decide (du s[k]!.var v<0)) s.length 0 s.length
def sS(s:List aY)(v:ak):Bool:=decide (oH s v<s.length)&&(du s[oH s v]!.var v==0)
def zf(t:I):Bool:=decide (t.args.length=0)&&eg t.name
def mi(s:List aY)(k:Nat)(b:aY):List aY:=s.take k++b::s.drop k
variable {s:List aY}
theorem acJ{b:aY}:(mi s k b).length=s.length+1:=by simp[mi];omega
mutual
def oI:I->I->List aY->List aY×Bool
 |.mk n l,g,s=>if zf (.mk n l)then(if sS s n then(s,hi s[oH s n]!.term g)else(mi s (oH s n) ⟨n,g⟩,true))
  else if n != g.name||decide (l.length≠g.args.length)then([],false)else sT l g.args s
def sT:List I->List I->List aY->List aY×Bool
 |p::ps,g::gs,s=>bif (oI p g s).2 then sT ps gs (oI p g s).1 else([],false)|[],_,s=>(s,true)|_::_,[],s=>(s,true)
end
mutual
def kl:I->Nat
 |.mk _ l=>o3 l+1
def o3:List I->Nat
 |[]=>0|t::r=>kl t+o3 r
end
mutual
theorem alY:∀{p g:I}{s:List aY},(oI p g s).1.length<=s.length+kl p
 |.mk n l,g,s=>by
  rw[oI,kl];split
  ·split
   ·simp only;omega
   ·simp only[acJ];omega
  ·split
   ·simp
   ·have:=@alZ l g.args s;omega
theorem alZ:∀{l m:List I}{s:List aY},(sT l m s).1.length<=s.length+o3 l
 |p::ps,g::gs,s=>by
  rw[sT,o3];have a:=@alY p g s;cases (oI p g s).2 with
  |true=>have:=@alZ ps gs (oI p g s).1;simp only[cond_true];omega|false=>simp
 |[],_,s=>by rw[sT];simp|_::_,[],s=>by rw[sT];simp
end
variable {l:List I}{i:Nat}
theorem aqI(h:i<l.length):o3 (l.drop i)=kl l[i]! + o3 (l.drop (i+1)):=by rw[fi h,o3]
theorem aqT(s:List aY)(v:ak):oH s v<=s.length:=by
 have:∀(c:Nat->Bool)f bc al,bc<=al->p8 c f bc al<=al:=by
  intro c f;induction f with
  |zero=>intro bc al h;exact h|succ f ih =>
   intro bc al h;rw[p8];split
   ·split
    ·exact ih _ _ am
    ·have:=ih bc ((bc+al) / 2) am;omega
   ·exact h
 exact this _ _ _ _ (aKZ _)
def xz(s:List aY)(i:Nat):Bool:=eg s[i]!.var&&cD 4 s[i]!.term true&&!(decide (0<i)&&(Op.bytesLess s[i]!.var s[i-1]!.var||s[i]!.var==s[i-1]!.var))
def q1(s:List aY):Bool:=decide (s.length<=64)&&(aKW s.length).all (xz s)
theorem aL5(al:i<s.length)(h:xz s i=false):q1 s=false:=by
 have:(aKW s.length).all (xz s)=false:=List.all_eq_false.2 ⟨i,List.mem_range.2 al,by rw[h];simp⟩;rw[q1,this,Bool.and_false]
theorem aL6(a:s.length<=64)(h:∀i,i<s.length->xz s i=true):q1 s=true:=by
 rw[q1,decide_eq_true a,Bool.true_and,List.all_eq_true];exact λi al=>h i (List.mem_range.1 al)
def k3(s:List aY):AV:=if s=[]then .aS 3 else .list none 3 (s.map aY.enc)
theorem aL7:k3 []=.aS 3:=rfl
theorem al0(h:s≠[]):k3 s=.list none 3 (s.map aY.enc):=if_neg h
instance aT.k3(s:List aY):aT (k3 s) s:=by
 unfold AM.k3;split
 ·rename_i h;rw[h];exact aT.Qm
 ·exact inferInstance
def sU(p g:I):List aY×Bool :=
 if !cD 4 g false then([],false)else if(oI p g []).2&&q1 (oI p g []).1 then((oI p g []).1,true)else([],false)
theorem aMw(s:List aY):(k3 s).a1=k3 s:=by unfold k3;split<;>rfl
theorem LH(s:List aY):(k3 s).arg=true:=(aT.k3 s).arg
variable {s:au}{d:Nat}{K:au->Prop}
theorem aMx{x:Nat}{tg:aN K}(q:List aY):yD s d x K tg (k3 q)=di s d (k3 q) K ⟨⟩:=by unfold k3;split<;>rfl
attribute [go_sem 2000] aMx
attribute [go_sem] aMw LH
def dR:List aY->List AV
 |[]=>[]|b::r=>.str b.var::.str b.term.name::.list none 2 (b.term.args.map I.enc)::dR r
theorem Hj:∀l:List aY,(dR l).length=l.length*3
 |[]=>rfl|b::r=>by simp only[dR,aKE,Hj r];omega
theorem acK:∀l m:List aY,dR (l++m)=dR l++dR m
 |[],m=>rfl|b::r,m=>by simp only[aKF,dR,acK r m]
theorem Hl:∀l:List aY,(dR l).map AV.a1=dR l
 |[]=>rfl|b::r=>by simp only[dR,aKB,AV.a1,Hl r]
theorem acL:∀l:List aY,(dR l).all AV.eH=true
 |[]=>rfl|b::r=>by simp only[dR,List.all_cons,AV.eH,acL r,Bool.and_self]
theorem acM:∀l:List aY,((l.map aY.enc).map λv:AV=>v.cells.map AV.a1).flatten=dR l
 |[]=>rfl|b::r=>by simp only[aKB,aK6,acM r];rfl
theorem acN:∀l:List aY,chunk 3 l.length (dR l)=l.map aY.enc
 |[]=>rfl|b::r=>by simp[chunk,dR,aY.enc,acN]
theorem aqU(s:List aY)(k:Nat)(b:aY):(dR s).take (k*3)++b.enc.cells++(dR s).drop (k*3)=dR (mi s k b):=by
 have h:∀(s:List aY)k,(dR s).take (k*3)=dR (s.take k)/\(dR s).drop (k*3)=dR (s.drop k):=by
  intro s;induction s with
  |nil=>intro k;simp[dR]|cons a r ih =>
   intro k;cases k with
   |zero=>simp[dR]|succ k=>rw[show(k+1)*3=k*3+1+1+1 by omega];simp[dR,ih k]
 rw[(h s k).1,(h s k).2,mi,acK];simp[dR,aY.enc,AV.cells]
theorem aqV{l:Env}{m:List aY}(h:m.length=n/\n<=M):pU l H t e 3 id n 3 (some (.buf e (dR m)))=some ⟨N ((t,.v (.list (some e) 3 (m.map aY.enc)))::l),H.set id .dead⟩:=by
 obtain⟨h,a⟩:=h;have c:(dR m).take (n*3)=dR m:=aKO (by rw[Hj,h];omega);simp only[pU,c,Hl,acL,Hj,h,true_and,aKV,a,if_true];rw[<-h,acN];simp only[b7,aK7]
theorem atf(ne:Bool)(o:Option Nat)(z:Nat){l:List aY}(h:l≠[]):Ge ne (.list o z (l.map aY.enc))=some (.bool ne):=by
 simp only[Ge,List.map_eq_nil_iff,if_neg h]
variable {e0:Env}{t:aN K}
theorem avN{s:List aY}(h:H[id]?=some (.buf e [])/\s.length<=M) :
  o7 ⟨e0,H⟩ d e 3 K t (.bI id 0 0 3) (some (3,s.map aY.enc))=di ⟨e0,H.set id .dead++[ay.buf e (dR s),.dead]⟩ d (.bI H.length 0 s.length 3) K ⟨⟩:=by
 obtain⟨a,c⟩:=h;simp only[o7,a];rw[if_pos iF,acM,aLe,aKK];rfl
attribute [go_sem 3000] aqV
attribute [go_sem] atf
open Go Go.Shelf Go.RowKit Go.Lib Go.Proofs
variable {P:Program}{cg:Ren}{sz:Nat}
structure vv(P:Program)(cg:Ren)(sz:Nat):Prop where
 mixed:P.follows .mixedOrders=true
 f22:∃fn,P.funcs[cg.f 22]?=some fn/\fn.body=(Body2.n22 cg).body/\fn.ntmps=(Body2.n22 cg).ntmps/\fn.results=(Body2.n22 cg).results
 f29:∀args w,(callFunc (cg.f 29) args).run P w=((Extern.SlicesOverlaps.overlaps #[cg.t 24,cg.t 24] #[cg.t 4] args).run P w).andThen λv w'=>.ok (.value v) w'
 t0:P.underlying (cg.t 0)=some (TypeDesc.tuple #[])
 a0:∀w,(isAgg (cg.t 0)).run P w=.ok false w
 z0:∀w,(Go.sizeOf (cg.t 0)).run P w=.ok 1 w
 v0:∀w,(zeroValue (cg.t 0)).run P w=.ok (Value.tuple #[]) w
 t3:P.underlying (cg.t 3)=some (TypeDesc.int IntKind.i64)
 a3:∀w,(isAgg (cg.t 3)).run P w=.ok false w
 z3:∀w,(Go.sizeOf (cg.t 3)).run P w=.ok 1 w
 v3:∀w,(zeroValue (cg.t 3)).run P w=.ok (Value.int IntKind.i64 0) w
 t4:P.underlying (cg.t 4)=some (TypeDesc.bool)
 a4:∀w,(isAgg (cg.t 4)).run P w=.ok false w
 z4:∀w,(Go.sizeOf (cg.t 4)).run P w=.ok 1 w
 v4:∀w,(zeroValue (cg.t 4)).run P w=.ok (Value.bool false) w
 t24:P.underlying (cg.t 24)=some (TypeDesc.slice (cg.t 9))
 a24:∀w,(isAgg (cg.t 24)).run P w=.ok false w
 z24:∀w,(Go.sizeOf (cg.t 24)).run P w=.ok 1 w
 v24:∀w,(zeroValue (cg.t 24)).run P w=.ok (Value.slice none 0 0) w
 z9:∀w,(Go.sizeOf (cg.t 9)).run P w=.ok sz w
theorem Hr(w:World)(r u ty c:TypeId)(b o g p:Nat)(a:Addr)(h q n:Nat)(cs:List Value)
  (z:P.underlying r=some (.slice c))(ax:∀w,(Go.sizeOf c).run P w=.ok sz w)(A:n=Nat.min h g)(B:cs.length=n*sz)
  (C:∀j v,cs[j]?=some v->w.cell? (a.add j)=some v)(D:∀j,j<cs.length->(w.cell? ⟨b,o+j,none⟩).isSome=true)(E:∀j,j<cs.length->w.frozen? ⟨b,o+j,none⟩=false)(F:∀v∈cs,v.oneCell'=true) :
  (Builtin.copy_ #[r,u] ty #[.slice (some ⟨b,o,none⟩) g p,.slice (some a) h q]).run P w=.ok (goInt n) (w.setCells b o cs):=by
 have m:=run_loadCells_list (P:=P) w a cs C;have G:=run_storeCells_cells (P:=P) b o cs 0 w (by simpa using D) (by simpa using E) F;rw[B]at m;simp[Builtin.copy_,run_underlying z,Builtin.lenOf,Builtin.firstCells,ax,<-A,m,G]
variable {w:World}
theorem Ji{f:FuncId}{fn g:Func}{c:Code}{args:Array Value}{R:Ending->World->Prop}(j:P.funcs[f]?=some fn/\fn.body=g.body/\fn.ntmps=g.ntmps/\fn.results=g.results)(ae:g.body=some c)
  (h:c.wp P (bodyPost P g R) { tmps:=args++Array.replicate (g.ntmps-args.size) undef,defers:=[] } w):Calls P f args w R:=by
 obtain⟨m,o,p,q⟩:=j;refine calls_of_wp m (o.trans ae) ?_;have e:bodyPost P fn R=bodyPost P g R:=by
  funext e a w
  cases e<;>simp only[bodyPost,results,q]
 rw[e,p];exact h
theorem avQ(w:World)(g m e:TypeId)(u:P.underlying g=some (.slice e))(z:∀w,(Go.sizeOf e).run P w=.ok sz w)
  (a b:Addr)(h p j AK:Nat)(cG:a.block≠b.block)(B Gr:TypeId)(c yJ:Nat)
  (C:w.shape? a.block=some (B,c))(D:w.shape? b.block=some (Gr,yJ))(E:c≠0)(F:∀o,w.frozen? ⟨b.block,o,none⟩=false)(G:w.frozen? b=false) :
  (Extern.SlicesOverlaps.overlaps #[g,g] #[m] #[.slice (some a) h p,.slice (some b) j AK]).run P w=.ok (.bool false) w:=by
 have J:(a.block != b.block)=true:=by simpa using cG
 have q:(a.block==b.block)=false:=by simpa using cG
 change Sem.run P (α:=Value) (do
  let some t:=(#[g,g]:Array TypeId)[0]?|stuck "slices.overlaps: no parameter types"
  let .slice elem <-underlying t|stuck "slices.overlaps: slice type expected"
  let size <-sizeOf elem
  match(some a:Option Addr),(some b:Option Addr)with
  |some a,some b =>
   if h=0\/j=0\/size=0 then pure (Value.bool false)
   else if a.block != b.block&&(<-frozen a)&&(<-frozen b)then unsupported .addressObserved
   else do
    if a.block != b.block then do
     noView a;noView b
     if <-mayBeOne a b then return Value.bool ((<-choose (.extern "sameAddr.stringBytes" 2))==1)
    pure (Value.bool (a.block==b.block&&a.off<b.off+j*size&&b.off<a.off+h*size))
  |_,_=>pure (Value.bool false)) w=_
 by_cases A:h=0\/j=0\/sz=0
 ·simp[run_underlying u,z,A]
 ·obtain⟨c,rfl⟩:∃k,c=k+1:=⟨c-1,am⟩;have L:=F yJ;cases O:w.frozen? a<;>cases r:w.frozen? { block:=a.block,off:=c+1 } <;>
   simp[run_underlying u,z,A,J,q,frozen,noView,viewAt,mayBeOne,stringish,shape,Sem.run,C,D,O,r,G,L]
set_option maxHeartbeats 4000000 in
set_option maxRecDepth 100000 in
theorem avV(L:vv P cg sz)(fY:0<sz)(b off n c i vb voff m vc:Nat)(cs vs:List Value)(w:World)(al:i<n)(hm:0<m)(zA:n+m<=c)(avW:c<=9223372036854775807)(NJ:vb≠b)
  (j0:cs.length=n*sz)(RO:vs.length=m*sz)
  (iT:∀j v,cs[j]?=some v->w.cell? ⟨b,off+j,none⟩=some v)(ak5:∀j,j<(n+m)*sz->(w.cell? ⟨b,off+j,none⟩).isSome=true)(Gx:∀j,j<(n+m)*sz->w.frozen? ⟨b,off+j,none⟩=false)
  (jy:∀j v,vs[j]?=some v->w.cell? ⟨vb,voff+j,none⟩=some v)(zk:∀v∈cs,v.oneCell'=true)(Af:∀v∈vs,v.oneCell'=true)
  (zj Gr:TypeId)(r2 yJ:Nat)(LF:w.shape? vb=some (zj,r2))(zG:w.shape? b=some (Gr,yJ))(acR:r2≠0)(Jj:∀o,w.frozen? ⟨b,o,none⟩=false) :
  Calls P (cg.f 22) #[.slice (some ⟨b,off,none⟩) n c,.int .i64 i,.slice (some ⟨vb,voff,none⟩) m vc] w λe w' =>
   e=.returned (.slice (some ⟨b,off,none⟩) (n+m) c)/\w'=(w.drew.setCells b (off+(i+m)*sz) (cs.drop (i*sz))).setCells b (off+i*sz) vs:=by
 have t0:=L.t0;have a0:=L.a0;have z0:=L.z0;have v0:=L.v0;have t3:=L.t3;have a3:=L.a3;have z3:=L.z3;have v3:=L.v3;have t4:=L.t4;have a4:=L.a4;have z4:=L.z4;have v4:=L.v4;have z9:=L.z9;have t24:=L.t24;have a24:=L.a24;have z24:=L.z24;have v24:=L.v24
 have wB:=run_underlying L.t0;have fp:=run_underlying L.t3;have o1:=run_underlying L.t4;have acS:=run_underlying L.t24
 have acT:¬((m:Int)=0):=by omega
 have IM:¬((i:Int)=(n:Int)):=by omega
 have R2:∀nF AK,(callFunc (cg.f 29) #[.slice (some ⟨vb,voff,none⟩) m vc,.slice (some ⟨b,off+(i+m)*sz,none⟩) nF AK]).run P w=.ok (.value (.bool false)) w:=λnF AK=>by
  rw[L.f29,avQ w (cg.t 24) (cg.t 4) (cg.t 9) L.t24 L.z9 ⟨vb,voff,none⟩ ⟨b,off+(i+m)*sz,none⟩ m vc nF AK NJ zj Gr r2 yJ LF zG acR Jj (Jj _)];rfl
 have aH:(n-i)*sz+i*sz=n*sz:=by rw[<-aKH];congr 1;omega
 have aR:(i+m)*sz+(n-i)*sz=(n+m)*sz:=by rw[<-aKH];congr 1;omega
 have fe:i*sz+m*sz+(n-i)*sz=(n+m)*sz:=by rw[<-aKH,aR]
 have CX:(cs.drop (i*sz)).length=(n-i)*sz:=by rw[List.length_drop,j0];omega
 have mixed:=L.mixed;have sl:IntKind.i64.wrap ((i:Int)+(m:Int))=(i:Int)+(m:Int):=by rw[IntKind.wrap_i64];omega
 have ed:(0:Int)<=(i:Int)+(m:Int):=by omega
 have Ld:i<=n:=by omega
 have ahU:((i:Int)+(m:Int)).toNat=i+m:=by omega
 have dX:¬(c=i+m):=by omega
 have tk:(i:Int)<=(n:Int)+(m:Int):=by omega
 have aEB:¬(c=i):=by omega
 have acU:∀ty ft hh,(Builtin.copy_ #[(cg.t 24),(cg.t 24)] ty #[.slice (some ⟨b,off+(i+m)*sz,none⟩) (n+m-(i+m)) ft,.slice (some ⟨b,off+i*sz,none⟩) (n+m-i) hh]).run P w.drew=.ok (goInt (n-i:Nat)) (w.drew.setCells b (off+(i+m)*sz) (cs.drop (i*sz))):=λty ft hh =>
  Hr w.drew _ _ ty (cg.t 9) b (off+(i+m)*sz) (n+m-(i+m)) ft ⟨b,off+i*sz,none⟩ (n+m-i) hh (n-i) (cs.drop (i*sz)) L.t24 L.z9 ip CX
   (λj v a8=>by rw[Addr.add_lit,aKR];exact iT (i*sz+j) v (by rwa[List.getElem?_drop]at a8))
   (λj a8=>by rw[aKR];exact ak5 _ am) (λj a8=>by rw[aKR];exact Gx _ am) (λv aq=>zk v (aLk aq))
 obtain⟨ru,p7⟩:∃ru,ru=w.drew.setCells b (off+(i+m)*sz) (cs.drop (i*sz)):=⟨_,rfl⟩;have avX:∀k,k<(n+m)*sz->(ru.cell? ⟨b,off+k,none⟩).isSome=true:=λk hk=>by
  rw[p7];exact isSome_setCells b _ _ _ (λj a8=>by rw[aKR];exact ak5 _ am) _ (ak5 k hk)
 have avY:∀(W:World),(∀x,W.cell? x=ru.cell? x)->(∀x,W.frozen? x=ru.frozen? x)->∀ty ft,(Builtin.copy_ #[(cg.t 24),(cg.t 24)] ty #[.slice (some ⟨b,off+i*sz,none⟩) (n+m-i) ft,.slice (some ⟨vb,voff,none⟩) m vc]).run P W=.ok (goInt m) (W.setCells b (off+i*sz) vs):=λW vw Cy ty ft =>
  Hr W _ _ ty (cg.t 9) b (off+i*sz) (n+m-i) ft ⟨vb,voff,none⟩ m vc m vs L.t24 L.z9 ip RO
   (λj v a8=>by
    rw[Addr.add_lit,vw,p7,World.cell?_setCells_out b _ _ _ _ (λh _=>absurd h NJ)];exact jy j v a8)
   (λj a8=>by rw[vw,aKR];exact avX _ am) (λj a8=>by rw[Cy,p7,World.frozen?_setCells,aKR];exact Gx _ am) Af
 rw[<-p7]at acU;obtain⟨NW,wM⟩:=L.f22;refine Ji wM rfl ?_;simp only[Body2.n22_ntmps cg,aKL,aKE,aK4,Nat.reduceAdd,Nat.reduceSub,aLf,aLg,aLh,aLi,aKJ,aKF]
 go_wp2_with (simp only[R2])
 go_region_law_o (refine step_copy_runI rfl _ _ (cg.t 24) (cg.t 24) rfl _ _ nl nl (acU _ _ _) ?_)
 go_wp2_with (at_builtin;refine wpList_copy_runI _ rfl _ _ (cg.t 24) (cg.t 24) rfl _ _ rfl rfl (avY _ (λ_=>rfl) (λ_=>rfl) _ _) ?_)
 go_ret
 first|exact⟨rfl,rfl⟩|exact⟨rfl,by rw[p7]⟩
set_option maxHeartbeats 4000000 in
set_option maxRecDepth 100000 in
theorem avZ(L:vv P cg sz)(fY:0<sz)(i0:TypeInfo)(z:Value)(Ml:P.info? (cg.t 9)=some i0)(Xd:i0.zero=some z)(pw:i0.size=sz)(tL:z.cells.size=sz)
  (b off n c i vb voff m vc:Nat)(cs vs:List Value)(w:World)(al:i<n)(hm:0<m)(vV:n<=c)(zA:c<n+m)(Dn:(n+m)*i0.bytes<=140737488355328)
  (j0:cs.length=n*sz)(RO:vs.length=m*sz)
  (iT:∀j v,cs[j]?=some v->w.cell? ⟨b,off+j,none⟩=some v)
  (jy:∀j v,vs[j]?=some v->w.cell? ⟨vb,voff+j,none⟩=some v)(zk:∀v∈cs,v.oneCell'=true)(Af:∀v∈vs,v.oneCell'=true)(OU:n+m<=maxLen) :
  Calls P (cg.f 22) #[.slice (some ⟨b,off,none⟩) n c,.int .i64 i,.slice (some ⟨vb,voff,none⟩) m vc] w λe w' =>
   e=.returned (.slice (some ⟨w.heap.size,0,none⟩) (n+m) (grownCap w (n+m) c (cg.t 9))) /\
   w'=(((w.alloc (.cells ((cs.take (i*sz)).toArray++Builtin.zeroCells z.cells (n+m-i)++Builtin.zeroCells z.cells (grownCap w (n+m) c (cg.t 9)-(n+m))) (cg.t 9))).drew.setCells w.heap.size (i*sz) vs).drew).setCells w.heap.size ((i+m)*sz) (cs.drop (i*sz)):=by
 have t0:=L.t0;have a0:=L.a0;have z0:=L.z0;have v0:=L.v0;have t3:=L.t3;have a3:=L.a3;have z3:=L.z3;have v3:=L.v3;have t4:=L.t4;have a4:=L.a4;have z4:=L.z4;have v4:=L.v4;have z9:=L.z9;have t24:=L.t24;have a24:=L.a24;have z24:=L.z24;have v24:=L.v24
 have wB:=run_underlying L.t0;have fp:=run_underlying L.t3;have o1:=run_underlying L.t4;have acS:=run_underlying L.t24
 have mixed:=L.mixed;have acT:¬((m:Int)=0):=by omega
 have IM:¬((i:Int)=(n:Int)):=by omega
 have aEC:(c:Int)<(n:Int)+(m:Int):=by omega
 have aH:(n-i)*sz+i*sz=n*sz:=by rw[<-aKH];congr 1;omega
 have aR:(i+m)*sz+(n-i)*sz=(n+m)*sz:=by rw[<-aKH];congr 1;omega
 have fe:i*sz+m*sz+(n-i)*sz=(n+m)*sz:=by rw[<-aKH,aR]
 have nz:i*sz+(n+m-i)*sz=(n+m)*sz:=by rw[<-aKH];congr 1;omega
 have aED:0<n*sz/\0<m*sz:=⟨Nat.mul_pos am fY,Nat.mul_pos hm fY⟩;have acV:b<w.heap.size:=block_lt_of_cell (iT 0 _ (aKD am));have ar1:vb<w.heap.size:=block_lt_of_cell (jy 0 _ (aKD am));have lx:(n:Int)+(m:Int)-(i:Int)=((n+m-i:Nat):Int):=by omega
 have OV:i+(n+m-i)=n+m:=by omega
 have hold:(Builtin.firstCells i0.size i (.slice (some ⟨b,off,none⟩) i c)).run P w.drew=.ok (cs.take (i*sz)).toArray w.drew:=by
  rw[pw];exact run_firstCells_some w.drew sz i ⟨b,off,none⟩ i c (cs.take (i*sz)) (by rw[List.length_take];omega) (λj v a8=>by
   rw[Addr.add_lit];rw[aKX]at a8;split at a8
   ·exact iT j v a8
   ·cases a8)
 have Jl:∀ty,(Builtin.append_ #[(cg.t 24),(cg.t 3)] ty #[.slice (some ⟨b,off,none⟩) i c,.int .i64 ((n:Int)+(m:Int)-(i:Int))]).run P w =
   .ok (.slice (some ⟨w.heap.size,0,none⟩) (n+m) (grownCap w (n+m) c (cg.t 9))) (w.drew.alloc (.cells ((cs.take (i*sz)).toArray++Builtin.zeroCells z.cells (n+m-i)++Builtin.zeroCells z.cells (grownCap w (n+m) c (cg.t 9)-(n+m))) (cg.t 9))):=λty=>by
  have dX:(n+m-i)*i0.bytes<=(n+m)*i0.bytes:=aK5 _ am;have h:=Lib.run_append_grow_zeros w (cg.t 24) (cg.t 3) ty (cg.t 9) i0 _ .i64 .i64 L.t24 L.t3 Ml Xd (some ⟨b,off,none⟩) i c (cs.take (i*sz)) hold (n+m-i) am am am (by unfold maxLen at OU;omega) am (by rw[OV];exact growslice_fits zA Dn);rw[OV]at h;rw[lx];exact h
 obtain⟨G,wY⟩:∃G,G=grownCap w (n+m) c (cg.t 9):=⟨_,rfl⟩;obtain⟨jK,wR⟩:∃jK:Array Value,jK=(cs.take (i*sz)).toArray++Builtin.zeroCells z.cells (n+m-i)++Builtin.zeroCells z.cells (G-(n+m)):=⟨_,rfl⟩;rw[<-wY]at Jl ⊢;rw[<-wR]at Jl ⊢;have av0:(n+m)*sz<=jK.size:=by
  rw[wR];simp[Builtin.zeroCells,tL];omega
 obtain⟨ru,p7⟩:∃ru,ru=w.drew.alloc (.cells jK (cg.t 9)):=⟨_,rfl⟩;rw[<-p7]at Jl;have mO:∀j,j<(n+m)*sz->(ru.cell? ⟨w.heap.size,j,none⟩).isSome=true:=λj a8=>by
  rw[p7,World.cell?_alloc_at (w:=w.drew) jK _ w.heap.size j rfl,aLb am];rfl
 have acW:∀j,ru.frozen? ⟨w.heap.size,j,none⟩=false:=λj=>by rw[p7];exact World.frozen?_alloc_at (w:=w.drew) jK _ w.heap.size j rfl
 have av2:∀j v,w.cell? ⟨b,j,none⟩=some v->ru.cell? ⟨b,j,none⟩=some v:=λj v h=>by rw[p7,World.cell?_alloc_past (w:=w.drew) _ b j acV];exact h
 have av3:∀j v,w.cell? ⟨vb,j,none⟩=some v->ru.cell? ⟨vb,j,none⟩=some v:=λj v h=>by rw[p7,World.cell?_alloc_past (w:=w.drew) _ vb j ar1];exact h
 have av4:∀(W:World),(∀x,W.cell? x=ru.cell? x)->(∀x,W.frozen? x=ru.frozen? x)->∀ty ft,(Builtin.copy_ #[(cg.t 24),(cg.t 24)] ty #[.slice (some ⟨w.heap.size,i*sz,none⟩) (n+m-i) ft,.slice (some ⟨vb,voff,none⟩) m vc]).run P W=.ok (goInt m) (W.setCells w.heap.size (i*sz) vs):=λW vw Cy ty ft =>
  Hr W _ _ ty (cg.t 9) w.heap.size (i*sz) (n+m-i) ft ⟨vb,voff,none⟩ m vc m vs L.t24 L.z9 ip RO
   (λj v a8=>by rw[Addr.add_lit,vw];exact av3 _ v (jy j v a8))
   (λj a8=>by rw[vw];exact mO _ am) (λj a8=>by rw[Cy];exact acW _) Af
 have aHO:n+m<=G:=by rw[wY];exact grownCap_ge w _ _ _
 have aI9:G<=9223372036854775807:=by
  have:=grownCap_le_maxLen w (n+m) c (cg.t 9) OU;rw[<-wY]at this;unfold maxLen at this;omega
 have aJa:¬(G=i):=by omega
 have aJb:¬(G=i+m):=by omega
 have sP:¬(c=i):=by omega
 have av5:b≠w.heap.size:=by omega
 have CX:(cs.drop (i*sz)).length=(n-i)*sz:=by rw[List.length_drop,j0];omega
 have acX:∀(W:World),(∀x,W.cell? x=(ru.setCells w.heap.size (i*sz) vs).cell? x)->(∀x,W.frozen? x=(ru.setCells w.heap.size (i*sz) vs).frozen? x)->∀ty ft hh,(Builtin.copy_ #[(cg.t 24),(cg.t 24)] ty #[.slice (some ⟨w.heap.size,(i+m)*sz,none⟩) (n+m-(i+m)) ft,.slice (some ⟨b,off+i*sz,none⟩) (n-i) hh]).run P W=.ok (goInt (n-i:Nat)) (W.setCells w.heap.size ((i+m)*sz) (cs.drop (i*sz))):=λW vw Cy ty ft hh =>
  Hr W _ _ ty (cg.t 9) w.heap.size ((i+m)*sz) (n+m-(i+m)) ft ⟨b,off+i*sz,none⟩ (n-i) hh (n-i) (cs.drop (i*sz)) L.t24 L.z9 ip CX
   (λj v a8=>by
    rw[Addr.add_lit,vw,World.cell?_setCells_out _ _ _ _ _ (λh _=>absurd h av5),aKR];exact av2 _ v (iT (i*sz+j) v (by rwa[List.getElem?_drop]at a8)))
   (λj a8=>by rw[vw];exact isSome_setCells _ _ _ _ (λt aB=>mO _ am) _ (mO _ am))
   (λj a8=>by rw[Cy,World.frozen?_setCells];exact acW _) (λv aq=>zk v (aLk aq))
 subst p7;have av6:∀x,((w.alloc (.cells jK (cg.t 9))).drew).cell? x=(w.drew.alloc (.cells jK (cg.t 9))).cell? x:=λx=>rfl;have av7:∀x,((w.alloc (.cells jK (cg.t 9))).drew).frozen? x=(w.drew.alloc (.cells jK (cg.t 9))).frozen? x:=λx=>rfl;have KZ:∀x,(((w.alloc (.cells jK (cg.t 9))).drew.setCells w.heap.size (i*sz) vs).drew).cell? x=((w.drew.alloc (.cells jK (cg.t 9))).setCells w.heap.size (i*sz) vs).cell? x:=λx=>rfl;have aiV:∀x,(((w.alloc (.cells jK (cg.t 9))).drew.setCells w.heap.size (i*sz) vs).drew).frozen? x=((w.drew.alloc (.cells jK (cg.t 9))).setCells w.heap.size (i*sz) vs).frozen? x:=λx=>rfl;have sl:IntKind.i64.wrap ((i:Int)+(m:Int))=(i:Int)+(m:Int):=by rw[IntKind.wrap_i64];unfold maxLen at OU;omega
 have ed:(0:Int)<=(i:Int)+(m:Int):=by omega
 have Ld:i<=n:=by omega
 have ahU:((i:Int)+(m:Int)).toNat=i+m:=by omega
 have tk:(i:Int)<=(n:Int):=by omega
 clear lx OV hold wR wY av0;obtain⟨NW,wM⟩:=L.f22;refine Ji wM rfl ?_;simp only[Body2.n22_ntmps cg,aKL,aKE,aK4,Nat.reduceAdd,Nat.reduceSub,aLf,aLg,aLh,aLi,aKJ,aKF]
 go_wp2_with (first
  |(at_builtin;refine Lib.wpList_append_run _ rfl _ _ _ _ rfl _ _ rfl rfl _ _ (Jl _) ?_)|(at_builtin;refine wpList_copy_runI _ rfl _ _ (cg.t 24) (cg.t 24) rfl _ _ rfl rfl (av4 _ av6 av7 _ _) ?_)|(at_builtin;refine wpList_copy_runI _ rfl _ _ (cg.t 24) (cg.t 24) rfl _ _ rfl rfl (acX _ (λ_=>rfl) (λ_=>rfl) _ _ _) ?_))
 go_region_law_o (refine step_copy_runI rfl _ _ (cg.t 24) (cg.t 24) rfl (.slice (some ⟨w.heap.size,(i+m)*sz,none⟩) (n+m-(i+m)) (G-(i+m))) (.slice (some ⟨b,off+i*sz,none⟩) (n-i) (c-i)) nl nl (acX _ KZ aiV (cg.t 3) (G-(i+m)) (c-i)) ?_)
 go_wp2
 go_ret
 exact⟨rfl,rfl⟩
theorem CD(b:Nat):∀(vs:List Value)(o:Nat)(w:World)(k:Nat),k≠b->(w.setCells b o vs).heap[k]?=w.heap[k]?
 |[],_,_,_,_=>rfl|v::r,o,w,k,h=>by rw[World.setCells,CD b r _ _ _ h,heap_setCell_other _ _ _ _ h]
theorem CG(b e:Nat):∀(vs:List Value)(o:Nat)(w:World)(cur:Array Value),w.heap[b]?=some (.cells cur e (0,0)) ->
  (∃a,(w.setCells b o vs).heap[b]?=some (.cells a e (0,0))/\a.size=cur.size)/\(w.setCells b o vs).heap.size=w.heap.size/\((w.setCells b o vs).os,(w.setCells b o vs).tape)=(w.os,w.tape)/\(w.setCells b o vs).output=w.output
 |[],_,w,cur,h=>⟨⟨cur,h,rfl⟩,rfl,rfl,rfl⟩|v::r,o,w,cur,h=>by
  obtain⟨⟨c,g,j⟩,m,p,q⟩:=CG b e r (o+1) _ _ (heap_setCell_same w b o cur e v h);refine⟨⟨c,g,by rw[j];simp⟩,?_,p,q⟩;rw[World.setCells,m];simp[World.setCell]
variable {vs:List Value}
theorem acY{W:World}{p q:Nat}{cs:List Value}(ar:p<=cs.length)(z:vs.length=q)
  (cE:∀j v,j<p->cs[j]?=some v->W.cell? ⟨b,j,none⟩=some v)(fN:∀j(a:j<vs.length),W.cell? ⟨b,p+j,none⟩=some vs[j])
  (m:∀j(a:j<(cs.drop p).length),W.cell? ⟨b,p+q+j,none⟩=some (cs.drop p)[j]) :
  ∀(j:Nat)u,(cs.take p++vs++cs.drop p)[j]?=some u->W.cell? ⟨b,j,none⟩=some u:=by
 intro j u a;have o:(cs.take p).length=p:=by rw[List.length_take];omega
 rw[aKM,List.getElem?_append,o]at a;split at a
 ·rename_i h;rw[aKX,if_pos h]at a;exact cE j u h a
 ·rw[List.getElem?_append]at a;split at a
  ·rename_i r c;have:=fN (j-p) c;rw[show p+(j-p)=j by omega]at this;rw[this,<-aKD c];exact a
  ·rename_i r c;have g:=(aK3.1 a).1;have:=m (j-p-vs.length) g;rw[show p+q+(j-p-vs.length)=j by omega]at this;rw[this,<-aKD g];exact a
theorem av8(L:vv P cg sz)(b9:ko P (cg.t 9) sz=true){c vb voff vc:Nat}{cs:List Value}{arr:Array Value}(hk:k<n)(bw:n+1<=M)(vV:n<=c)(sd:c<=maxLen)(NJ:vb≠b)
  (ae:w.heap[b]?=some (.cells arr (cg.t 9) (0,0)))(aG:arr.size=c*sz)(E:cs.length=n*sz)(RO:vs.length=sz)(F:∀(j:Nat)v,cs[j]?=some v->w.cell? ⟨b,j,none⟩=some v)
  (J:∀(j:Nat)v,vs[j]?=some v->w.cell? ⟨vb,voff+j,none⟩=some v)(zk:∀v∈cs,v.oneCell'=true)(Af:∀v∈vs,v.oneCell'=true) :
  Calls P (cg.f 22) #[.slice (some ⟨b,0,none⟩) n c,.int .i64 k,.slice (some ⟨vb,voff,none⟩) 1 vc] w λe W=>∃nb C cur,e=.returned (.slice (some ⟨nb,0,none⟩) (n+1) C)/\(nb=b\/nb=w.heap.size)/\n+1<=C/\C<=maxLen /\
   W.heap[nb]?=some (.cells cur (cg.t 9) (0,0))/\cur.size=C*sz/\(∀j,j≠nb->j<w.heap.size->W.heap[j]?=w.heap[j]?)/\w.heap.size<=W.heap.size/\((W.os,W.tape)=(w.os,w.tape)/\W.output=w.output) /\
   ∀(j:Nat)u,(cs.take (k*sz)++vs++cs.drop (k*sz))[j]?=some u->cur[j]?=some u:=by
 obtain⟨O,z,al,ax,fY,bS,tL,Rp⟩:=ra b9;have cP:M=1099511627776:=rfl;have awb:maxLen=9223372036854775807:=rfl;have acV:b<w.heap.size:=(aK8.1 ae).1;have aH:(n+1)*sz=n*sz+sz:=Nat.succ_mul n sz;have aR:(k+1)*sz=k*sz+sz:=Nat.succ_mul k sz;have fe:(n-k)*sz+k*sz=n*sz:=by rw[<-aKH];congr 1;omega
 have nz:(k+1)*sz<=n*sz:=aK5 _ hk;have CX:(cs.drop (k*sz)).length=(n-k)*sz:=by rw[List.length_drop,E];omega
 by_cases Q:n+1<=c
 ·have Fc:(n+1)*sz<=c*sz:=aK5 _ Q;have xw:∀j,j<(n+1)*sz->(w.cell? ⟨b,0+j,none⟩).isSome=true:=λj a=>by
   rw[aKK];simp only[World.cell?,ae];rw[aLb am];rfl
  have Gx:∀o,w.frozen? ⟨b,o,none⟩=false:=λo=>frozen_of_row w b o arr _ ae;obtain⟨R,cE,lR⟩:∃cK:Array Value,(∃t f,w.heap[vb]?=some (.cells cK t f))/\cK.size≠0:=by
   have D:=J 0 vs[0] (aKD am);unfold World.cell? at D;split at D
   ·rename_i cK t f bk;refine⟨cK,⟨t,f,bk⟩,λh=>?_⟩;have:=(aK8.1 D).1;omega
   ·cases D
  obtain⟨zj,aJc,cE⟩:=cE;refine(avV L fY b 0 n c k vb voff 1 vc cs vs w hk am Q am NJ E am (λj v h=>by rw[aKK];exact F j v h) xw (λj _=>Gx _) J zk Af zj (cg.t 9) R.size arr.size
   (by simp[World.shape?,cE]) (by simp[World.shape?,ae]) lR Gx).mono ?_
  rintro e W ⟨rfl,rfl⟩;simp only[aKK];obtain⟨⟨T,V,X⟩,Y,Z,fL⟩:=CG b (cg.t 9) (cs.drop (k*sz)) ((k+1)*sz) w.drew arr ae;obtain⟨⟨c2,r,av⟩,aQ,bG,ev⟩:=CG b (cg.t 9) vs (k*sz) _ T V;have g:∀j,j<(n+1)*sz->(w.drew.cell? ⟨b,j,none⟩).isSome=true:=λj a=>by have:=xw j a;rw[aKK]at this;exact this
  have s2:∀j,j<(n+1)*sz->((w.drew.setCells b ((k+1)*sz) (cs.drop (k*sz))).cell? ⟨b,j,none⟩).isSome=true:=λj a=>isSome_setCells b _ _ _ (λj a=>g _ am) _ (g _ a);refine⟨b,c,c2,rfl,.inl rfl,Q,sd,r,by rw[av,X,aG],λj a _=>?_,by rw[aQ,Y];exact aKV _,⟨by rw[bG,Z];rfl,by rw[ev,fL];rfl⟩,λj u a=>?_⟩
  ·rw[CD b _ _ _ _ a,CD b _ _ _ _ a];rfl
  ·have:=acY (W:=(w.drew.setCells b ((k+1)*sz) (cs.drop (k*sz))).setCells b (k*sz) vs) (b:=b) (p:=k*sz) (q:=sz) (cs:=cs) (vs:=vs) am RO (λj v a A=>by
     rw[World.cell?_setCells_out b _ _ _ _ (λ_ _=>.inl a),World.cell?_setCells_out b _ _ _ _ (λ_ _=>.inl ap)];exact F j v A) (λj a=>World.cell?_setCells_in b _ _ _ (λj a=>s2 _ am) j a) (λj a=>by
     rw[World.cell?_setCells_out b _ _ _ _ (λ_ _=>.inr ap)];have:=World.cell?_setCells_in b (cs.drop (k*sz)) ((k+1)*sz) w.drew (λj a=>g _ am) j a;rwa[aR]at this ⊢) j u a
   simpa[World.cell?,r]using this
 ·have aJd:c=n:=by omega
  have Dn:(n+1)*O.bytes<=140737488355328:=by
   calc (n+1)*O.bytes<=1099511627776*128:=Nat.mul_le_mul am Rp
    _=140737488355328:=by decide
  refine(avZ L fY O z al bS ax tL b 0 n c k vb voff 1 vc cs vs w hk am vV am Dn E am (λj v h=>by rw[aKK];exact F j v h) J zk Af am).mono ?_;rintro e W ⟨rfl,rfl⟩;obtain⟨G,wY⟩:∃G,G=grownCap w (n+1) c (cg.t 9):=⟨_,rfl⟩;have g1:n+1<=G:=by rw[wY];exact grownCap_ge w _ _ _
  have g2:G<=maxLen:=by rw[wY];exact grownCap_le_maxLen w _ _ _ am
  rw[<-wY];obtain⟨m,wR⟩:∃m:Array Value,m=(cs.take (k*sz)).toArray++Builtin.zeroCells z.cells (n+1-k)++Builtin.zeroCells z.cells (G-(n+1)):=⟨_,rfl⟩;rw[<-wR];have PS:(G-(n+1))*sz+(n+1)*sz=G*sz:=by rw[<-aKH];congr 1;omega
  have Fk:(n+1-k)*sz+k*sz=(n+1)*sz:=by rw[<-aKH];congr 1;omega
  have awk:m.size=G*sz:=by
   rw[wR];simp[Builtin.zeroCells,tL];omega
  have awm:∀(j:Nat)v,j<k*sz->cs[j]?=some v->m[j]?=some v:=λj v a A=>by
   have aC:j<(cs.take (k*sz)).toArray.size:=by simp;omega
   rw[wR,Array.getElem?_append_left (by rw[Array.size_append];omega),Array.getElem?_append_left aC];simp[aKX,a,A]
  obtain⟨ba,B⟩:∃ba,ba=(w.alloc (.cells m (cg.t 9))).drew:=⟨_,rfl⟩;rw[<-B];have t0:ba.heap[w.heap.size]?=some (.cells m (cg.t 9) (0,0)):=by rw[B];exact heap_alloc_new w _
  have t1:∀j,j<w.heap.size->ba.heap[j]?=w.heap[j]?:=λj a=>by rw[B];exact heap_alloc_old w _ (h:=a)
  have t2:ba.heap.size=w.heap.size+1:=by rw[B];exact n4 w _
  have t3:(ba.os,ba.tape)=(w.os,w.tape)/\ba.output=w.output:=by rw[B];exact⟨rfl,rfl⟩
  obtain⟨⟨T,V,X⟩,Y,Z,fL⟩:=CG w.heap.size (cg.t 9) vs (k*sz) ba m t0;obtain⟨⟨c2,r,av⟩,aQ,bG,ev⟩:=CG w.heap.size (cg.t 9) (cs.drop (k*sz)) ((k+1)*sz) (ba.setCells w.heap.size (k*sz) vs).drew T V;have aJe:(n+1)*sz<=G*sz:=aK5 _ g1;have g:∀j,j<(n+1)*sz->(ba.cell? ⟨w.heap.size,j,none⟩).isSome=true:=λj a=>by
   simp only[World.cell?,t0];rw[aLb am];rfl
  have s2:∀j,j<(n+1)*sz->((ba.setCells w.heap.size (k*sz) vs).drew.cell? ⟨w.heap.size,j,none⟩).isSome=true:=λj a=>isSome_setCells _ _ _ _ (λj a=>g _ am) _ (g _ a);refine⟨w.heap.size,G,c2,rfl,.inr rfl,g1,g2,r,by rw[av,X,awk],λj a bJ=>?_,by rw[aQ];show _<=(ba.setCells w.heap.size (k*sz) vs).heap.size;rw[Y];omega,⟨by rw[bG];show((ba.setCells w.heap.size (k*sz) vs).os,(ba.setCells w.heap.size (k*sz) vs).tape)=_;rw[Z];exact t3.1,by rw[ev];show(ba.setCells w.heap.size (k*sz) vs).output=_;rw[fL];exact t3.2⟩,λj u a=>?_⟩
  ·rw[CD _ _ _ _ _ a];show(ba.setCells w.heap.size (k*sz) vs).heap[j]?=_;rw[CD _ _ _ _ _ a];exact t1 j bJ
  ·have:=acY (W:=((ba.setCells w.heap.size (k*sz) vs).drew).setCells w.heap.size ((k+1)*sz) (cs.drop (k*sz))) (b:=w.heap.size) (p:=k*sz) (q:=sz) (cs:=cs) (vs:=vs) am RO (λj v a A=>by
     rw[World.cell?_setCells_out _ _ _ _ _ (λ_ _=>.inl ap)];show(ba.setCells w.heap.size (k*sz) vs).cell? _=_;rw[World.cell?_setCells_out _ _ _ _ _ (λ_ _=>.inl a)];simp only[World.cell?,t0];exact awm j v a A) (λj a=>by
     rw[World.cell?_setCells_out _ _ _ _ _ (λ_ _=>.inl ap)];exact World.cell?_setCells_in _ vs _ ba (λj a=>g _ am) j a) (λj a=>by
     have:=World.cell?_setCells_in w.heap.size (cs.drop (k*sz)) ((k+1)*sz) (ba.setCells w.heap.size (k*sz) vs).drew (λj a=>s2 _ am) j a;rwa[aR]at this ⊢) j u a
   simpa[World.cell?,r]using this
theorem awo{gl:cQ}(L:vv P cg sz)(D:ko P (cg.t 9) sz=true)(tx:kR P (cg.f 22)=true){cs:List AV} 
  (Q:H[id]?=some (.buf (cg.t 9) cs))(j0:cs.length=n*sz)(hk:k<n)(bw:n+1<=M)(ah:x.cells.length=sz) :
  bB P gl (cg.f 22) [.bI id 0 n sz,.int .i64 k,.list none sz [x]] H λr H'=>r=.bI H.length 0 (n+1) sz /\
   H'=H.set id .dead++[.buf (cg.t 9) ((cs.take (k*sz)++x.cells++cs.drop (k*sz)).map AV.a1),.dead]:=by
 refine⟨tx,λg w vs h jy _=>?_⟩;obtain⟨i0,z,al,ax,fY,bS,tL,Rp⟩:=ra D;obtain⟨p,q,v3,rfl,E,a3,A⟩:∃p q v3,vs=[p,q,v3]/\bn g (.bI id 0 n sz) p/\bn g (.int .i64 k) q/\bn g (.list none sz [x]) v3:=by
  cases jy with|cons _ _ p us E a2=>cases a2 with|cons _ _ q us a3 a4=>cases a4 with|cons _ _ v3 us A FR=>cases FR;exact⟨_,_,_,rfl,E,a3,A⟩
 obtain⟨b,kk,cap,R,av,aQ,bG,rfl⟩:=E.ti;have jC:=a3.kp;subst jC;obtain⟨base,vc,m1,m2,F⟩:=bn.MJ A rfl;rcases F with F|⟨vb,voff,rfl,m4⟩
 ·cases F
 subst m1;obtain⟨o,bT,b8,c8,dU,gP⟩:=m4.nw;obtain⟨a,ee,c9,T,ts⟩:=VE h A (sb:=false) rfl;rcases ts with⟨_,VA,oa,B,G⟩|⟨B,_⟩
 rotate_left
 ·cases B
 rcases G with G|⟨awp,awr,V,n7⟩
 ·cases G
 simp only[Value.slice.injEq,Option.some.injEq]at B;obtain⟨rfl,-,rfl⟩:=B;simp only[Option.some.injEq,Addr.mk.injEq]at V;obtain⟨rfl,rfl,-⟩:=V;obtain⟨b5,k',aP,x0,X,⟨arr,Y,c5⟩,oQ,HM,Z,iO,oN,v8,wa,VH⟩:=h.heap _ _ Q;obtain rfl:b=b5:=Option.some.inj (R.symm.trans aP);obtain rfl:kk=k':=Option.some.inj (av.symm.trans x0);obtain⟨ws,c1,C,J,hB⟩:=X.cells (off:=0) (n:=n*sz);simp only[aKN]at c1 C;rw[aKO am]at c1 C;obtain⟨arr',VC,da,eN,fQ,ql,Ny⟩:=X;have NJ:vb≠b:=by
  rintro rfl;have hlen:o.flatten.length=1*sz:=by simpa using dU
  have:=gP 0 o.flatten[0] (aKD am);rw[ql]at this;cases this
 have vP:cap<=maxLen:=by
  rw[al]at Z;obtain rfl:=Option.some.inj Z;have:cap*sz<=maxLen*sz:=by rw[<-ax]at aQ ⊢;omega
  exact Nat.le_of_mul_le_mul_right this fY
 have U3:a.length=sz:=by simpa using ee
 refine(av8 L D (b:=b) (n:=n) (c:=cap) (k:=k) (vb:=vb) (voff:=voff) (vc:=vc) (cs:=ws) (vs:=a) (w:=w) (arr:=arr) hk bw bG vP NJ Y am am U3
  (λj v O=>by have:=hB j v O;rwa[aKK]at this) (λj u O=>by have:=n7 j u O;rwa[n0]at this) J T).mono ?_
 rintro e W ⟨nb,iP,cur,rfl,t1,t2,t3,t4,t5,t6,t7,t8,t9⟩;have Ns:=h.dead id;have hZ:cS g ((cs.take (k*sz)++x.cells++cs.drop (k*sz)).map AV.a1) (ws.take (k*sz)++a++ws.drop (k*sz)):=by
  have x6:cS g (x.cells.map AV.a1) a:=by simpa using c9
  have:=((C.a1.take (k*sz)).append x6).append (C.a1.drop (k*sz));simpa using this
 obtain⟨g',ca,dK,fp,o1⟩:=Ns.Nu (w':=W) (nb:=nb) (e:=cg.t 9) (sz:=sz) (us:=ws.take (k*sz)++a++ws.drop (k*sz)) (c:=iP) (cur:=cur) (by
  rcases t1 with rfl|rfl
  ·refine .inr ⟨id,fQ,?_,R,by simp[Y]⟩;have:id<H.length:=(aK3.1 Q).1;simp[l9,this]
  ·exact .inl h.Eb) (by
  rcases t1 with rfl|rfl
  ·exact ql
  ·exact h.vQ) t6 t7 t8 t4 t5 t9 hZ (λu m=>by
   rcases aKS.1 m with m|m
   ·rcases aKS.1 m with m|m
    ·exact J u (List.mem_of_mem_take m)
    ·exact T u m
   ·exact J u (aLk m)) uA D t3
 have aC:({ l9 H with heap:=(l9 H).heap.set id .dead }:au).heap.length=H.length:=by simp[l9]
 rw[aC]at fp o1;refine⟨_,.bI H.length 0 (n+1) sz,H.set id .dead++[.buf (cg.t 9) ((cs.take (k*sz)++x.cells++cs.drop (k*sz)).map AV.a1),.dead],g',rfl,⟨rfl,rfl⟩,ca,dK,?_,.mE be⟩;exact .bI _ _ _ _ _ _ _ fp o1 be t2
set_option maxHeartbeats 4000000 in
set_option maxRecDepth 100000 in
theorem acZ(L:vv P cg sz)(base:Option Addr)(n c vb voff m vc:Nat)(w:World)(hm:0<m)(aI:n<=c)(avW:c<=9223372036854775807)(ae:base=none->n=0/\c=0)(c6:Value)(w':World)
  (aw:(Builtin.append_ #[cg.t 24,cg.t 24] (cg.t 24) #[.slice base n c,.slice (some ⟨vb,voff,none⟩) m vc]).run P w=.ok c6 w') :
  Calls P (cg.f 22) #[.slice base n c,.int .i64 n,.slice (some ⟨vb,voff,none⟩) m vc] w λe W=>e=.returned c6/\W=w':=by
 have t0:=L.t0;have a0:=L.a0;have z0:=L.z0;have v0:=L.v0;have t3:=L.t3;have a3:=L.a3;have z3:=L.z3;have v3:=L.v3;have t4:=L.t4;have a4:=L.a4;have z4:=L.z4;have v4:=L.v4;have z9:=L.z9;have t24:=L.t24;have a24:=L.a24;have z24:=L.z24;have v24:=L.v24
 have wB:=run_underlying L.t0;have fp:=run_underlying L.t3;have o1:=run_underlying L.t4;have acS:=run_underlying L.t24
 have mixed:=L.mixed;have acT:¬((m:Int)=0):=by omega
 cases base with
 |none =>
  obtain⟨rfl,rfl⟩:=ae rfl;obtain⟨NW,wM⟩:=L.f22;refine Ji wM rfl ?_;simp only[Body2.n22_ntmps cg,aKL,aKE,aK4,Nat.reduceAdd,Nat.reduceSub,aLf,aLg,aLh,aLi,aKJ,aKF]
  go_wp2_with (at_builtin;refine Lib.wpList_append_run _ rfl _ _ _ _ rfl _ _ rfl rfl _ _ aw ?_)
  go_ret
  exact⟨rfl,rfl⟩
 |some a =>
  obtain⟨tz,ak6,aJf⟩:=a;obtain⟨NW,wM⟩:=L.f22;refine Ji wM rfl ?_;simp only[Body2.n22_ntmps cg,aKL,aKE,aK4,Nat.reduceAdd,Nat.reduceSub,aLf,aLg,aLh,aLi,aKJ,aKF]
  go_wp2_with (at_builtin;refine Lib.wpList_append_run _ rfl _ _ _ _ rfl _ _ rfl rfl _ _ aw ?_)
  all_goals (go_ret;exact⟨rfl,rfl⟩)
theorem ac0{gl:cQ}{N:Nat}{g:bD}{a:Act}(h:Rel P gl N g s a w)(q:bn g (.list none sz [x]) v)(Q:0<sz)(ah:x.cells.length=sz) :
  ∃vb voff vc news,v=.slice (some ⟨vb,voff,none⟩) 1 vc/\(∃u,g.γ vb voff=some u)/\news.length=sz/\cS g (x.cells.map AV.a1) news/\(∀u∈news,u.oneCell'=true)/\∀(j:Nat)u,news[j]?=some u->w.cell? ((⟨vb,voff,none⟩:Addr).add j)=some u:=by
 obtain⟨base,vc,m1,R,o⟩:=bn.MJ q rfl;rcases o with o|⟨vb,voff,rfl,A⟩
 ·cases o
 subst m1;obtain⟨c,T,V,W,B,C⟩:=A.nw;obtain⟨news,D,E,F,G⟩:=VE h q (sb:=false) rfl;rcases G with⟨_,X,Y,m,p⟩|⟨m,_⟩
 rotate_left
 ·cases m
 rcases p with p|⟨J,L,r,O⟩
 ·cases p
 simp only[Value.slice.injEq,Option.some.injEq]at m;obtain⟨rfl,-,rfl⟩:=m;simp only[Option.some.injEq,Addr.mk.injEq]at r;obtain⟨rfl,rfl,-⟩:=r;have z:c.flatten.length=1*sz:=by simpa using B
 exact⟨vb,voff,vc,news,rfl,⟨_,C 0 c.flatten[0] (aKD am)⟩,by simpa using D,by simpa using E,F,O⟩
theorem aws{gl:cQ}(L:vv P cg sz)(F:ko P (cg.t 9) sz=true)(O:kR P (cg.f 22)=true)(ah:x.cells.length=sz) :
  bB P gl (cg.f 22) [.aS sz,.int .i64 0,.list none sz [x]] H λr H'=>r=.bI H.length 0 1 sz/\H'=H++[.buf (cg.t 9) (x.cells.map AV.a1),.dead]:=by
 refine⟨O,λg w vs h Q _=>?_⟩;obtain⟨a,z,al,ax,R,T,V,X⟩:=ra F;subst ax;obtain⟨A,B,v3,rfl,C,a3,D⟩:∃A B v3,vs=[A,B,v3]/\bn g (.aS a.size) A/\bn g (.int .i64 0) B/\bn g (.list none a.size [x]) v3:=by
  cases Q with|cons _ _ A us C a2=>cases a2 with|cons _ _ B us a3 a4=>cases a4 with|cons _ _ v3 us D Y=>cases Y;exact⟨_,_,_,rfl,C,a3,D⟩
 have Z:=C.uz;have jC:=a3.kp;subst Z jC;obtain⟨vb,o,G,p,rfl,-,ee,c9,J,n7⟩:=ac0 h D R ah;obtain⟨c6,w',cF,cO,er,eo,gQ⟩:=HY (P:=P) (w:=w) (ty:=cg.t 24) (m:=1) (c:=G) L.t24 al T V (World.ownsRow_nil w 0 (cg.t 9) a.size) am n7 J am dw X;refine(acZ L none 0 0 vb o 1 G w am (aKV _) am (λ_=>⟨rfl,rfl⟩) c6 w' cF).mono ?_;rintro e W ⟨rfl,rfl⟩;rcases eo with⟨_,q,_⟩|⟨q,gR,tt⟩
 ·exact absurd rfl q
 rcases cO.2 with⟨rfl,_⟩|⟨nb,cap,E,rfl,_,c1,c2,gv,hB,rh⟩
 ·simp[Value.ownBlock]at q
 simp[Value.ownBlock]at q;subst q;obtain⟨g',t1,t2,t3,t4⟩:=h.Nu (w':=W) (nb:=w.heap.size) (us:=p) (c:=cap) (.inl h.Eb) h.vQ (λk hk bJ=>tt k bJ) er gQ c1 hB (λj u a8=>by
  have:(E.toList.take ((0+1)*a.size))[j]?=some u:=by rw[rh];simpa using a8
  rw[aKX]at this;split at this
  ·simpa using this
  ·cases this) c9 J uA F gv
 exact⟨_,.bI H.length 0 1 a.size,_,g',rfl,⟨rfl,rfl⟩,t1,t2,.bI _ _ _ _ _ _ cap t3 t4 be am,.mE be⟩
theorem awu{gl:cQ}(L:vv P cg sz)(E:ko P (cg.t 9) sz=true)(T:kR P (cg.f 22)=true){cs:List AV} 
  (p:H[id]?=some (.buf (cg.t 9) cs))(j0:cs.length=n*sz)(hk:k<=n)(V:n+1<=M)(ah:x.cells.length=sz) :
  bB P gl (cg.f 22) [.bI id 0 n sz,.int .i64 k,.list none sz [x]] H λr H'=>r=.bI H.length 0 (n+1) sz /\
   H'=H.set id .dead++[.buf (cg.t 9) ((cs.take (k*sz)++x.cells++cs.drop (k*sz)).map AV.a1),.dead]:=by
 rcases Nat.lt_or_ge k n with X|X
 ·exact awo L E T p j0 X V ah
 obtain rfl:k=n:=by omega
 rw[aKO am,List.drop_eq_nil_of_le am,List.append_nil];refine⟨T,λg w vs h jy _=>?_⟩;obtain⟨a,z,al,ax,Y,bS,tL,Rp⟩:=ra E;subst ax;obtain⟨B,C,v3,rfl,F,a3,G⟩:∃B C v3,vs=[B,C,v3]/\bn g (.bI id 0 k a.size) B/\bn g (.int .i64 k) C/\bn g (.list none a.size [x]) v3:=by
  cases jy with|cons _ _ B us F a2=>cases a2 with|cons _ _ C us a3 a4=>cases a4 with|cons _ _ v3 us G FR=>cases FR;exact⟨_,_,_,rfl,F,a3,G⟩
 obtain⟨b,kk,cap,Z,av,aQ,J,rfl⟩:=F.ti;have jC:=a3.kp;subst jC;obtain⟨vb,q,vc,o,rfl,-,ee,c9,fP,n7⟩:=ac0 h G Y ah;obtain⟨b5,k',aP,x0,aV,⟨arr,O,c5⟩,oQ,HM,fL,iO,oN,v8,wa,VH⟩:=h.heap _ _ p;obtain rfl:b=b5:=Option.some.inj (Z.symm.trans aP);obtain rfl:kk=k':=Option.some.inj (av.symm.trans x0);obtain⟨ws,c1,Q,gv,hB⟩:=aV.cells (off:=0) (n:=k*a.size);simp only[aKN]at c1 Q;rw[aKO am]at c1 Q;obtain⟨arr',VC,da,eN,fQ,ql,Ny⟩:=aV;rw[al]at fL;obtain rfl:=Option.some.inj fL;have vP:cap<=maxLen:=Nat.le_of_mul_le_mul_right (show cap*a.size<=maxLen*a.size by omega) Y;have pE:arr.toList.take (k*a.size)=ws:=by
  apply List.ext_getElem?;intro j;rw[aKX];have:k*a.size<=cap*a.size:=aK5 _ J;split
  ·rename_i D;have p:=hB j ws[j] (aKD am);simp only[World.cell?,O,aKK]at p;rw[Array.getElem?_toList,aKD (l:=ws) am];simpa using p
  ·rw[aLa am]
 have fM:w.ownsRow 0 (cg.t 9) a.size (.slice (some ⟨b,0,none⟩) k cap) k ws:=⟨am,.inr ⟨b,cap,arr,rfl,aKZ _,O,J,vP,am,pE⟩⟩;obtain⟨c6,w',cF,cO,er,eo,gQ⟩:=HY (P:=P) (w:=w) (ty:=cg.t 24) (m:=1) (c:=vc) L.t24 al bS tL fM am n7 fP am V Rp;have awb:maxLen=9223372036854775807:=rfl;refine(acZ L (some ⟨b,0,none⟩) k cap vb q 1 vc w am J am (λh=>d6) c6 w' cF).mono ?_;rintro e W ⟨rfl,rfl⟩;rcases cO.2 with⟨rfl,aK⟩|⟨nb,oa,cur,rfl,_,d1,d2,d3,d4,d5⟩
 ·omega
 have Ns:=h.dead id;have hZ:cS g ((cs++x.cells).map AV.a1) (ws++o):=by rw[List.map_append];exact Q.a1.append c9
 have hY:nb=b\/nb=w.heap.size:=by
  rcases eo with⟨m1,_⟩|⟨m1,_⟩
  ·left;simpa[Value.ownBlock]using m1
  ·right;simpa[Value.ownBlock]using m1
 obtain⟨g',ca,dK,fp,o1⟩:=Ns.Nu (w':=W) (nb:=nb) (e:=cg.t 9) (sz:=a.size) (us:=ws++o) (c:=oa) (cur:=cur) (by
  rcases hY with rfl|rfl
  ·refine .inr ⟨id,fQ,?_,Z,by simp[O]⟩;have:id<H.length:=(aK3.1 p).1;simp[l9,this]
  ·exact .inl h.Eb) (by
  rcases hY with rfl|rfl
  ·exact ql
  ·exact h.vQ) (λj D bJ=>by
  rcases eo with⟨m1,_,R⟩|⟨m1,_,R⟩
  ·exact R j (by rw[<-m1];simpa[Value.ownBlock]using D)
  ·exact R j bJ) er gQ d1 d4 (λj u D=>by
  have:(cur.toList.take ((k+1)*a.size))[j]?=some u:=by rw[d5];exact D
  rw[aKX]at this;split at this
  ·simpa using this
  ·cases this) hZ (λu A=>by
   rcases aKS.1 A with A|A
   ·exact gv u A
   ·exact fP u A) uA E d3
 have aC:({ l9 H with heap:=(l9 H).heap.set id .dead }:au).heap.length=H.length:=by simp[l9]
 rw[aC]at fp o1;refine⟨_,.bI H.length 0 (k+1) a.size,H.set id .dead++[.buf (cg.t 9) ((cs++x.cells).map AV.a1),.dead],g',rfl,⟨rfl,rfl⟩,ca,dK,?_,.mE be⟩;exact .bI _ _ _ _ _ _ _ fp o1 be d2
mutual
def fy:I->ak|.mk n l=>n++[40]++iA l++[41]
def iA:List I->ak|[]=>[]|t::r=>(fy t++[44])++iA r
end
def xt:ak->Bool|[]=>false|c::_=>decide (65<=c.toNat)&&decide (c.toNat<=90)
def mx(t:I):Bool:=decide (t.args.length=0)&&xt t.name
def jr(s:List aY)(n:ak):Option I:=(s.find? λb=>b.var==n).map (·.term)
mutual
def fk:I->I->List aY->List aY×Bool
 |.mk n l,t,s=>if mx (.mk n l)then(match jr s n with|some u=>(s,hi u t)|none=>(s++[⟨n,t⟩],true))
  else if n != t.name||decide (l.length≠t.args.length)then([],false)else j9 l t.args s
def j9:List I->List I->List aY->List aY×Bool
 |p::ps,t::bE,s=>if(fk p t s).2 then j9 ps bE (fk p t s).1 else((fk p t s).1,false)|[],_,s=>(s,true)|_::_,[],s=>(s,true)
end
mutual
def hv:I->List aY->Option I
 |.mk n l,s=>if mx (.mk n l)then jr s n else(kN l s).map (I.mk n)
def kN:List I->List aY->Option (List I)
 |[],_=>some []|t::r,s=>match hv t s with
  |none=>none|some u=>(kN r s).map (u::·)
end
theorem SV:∀(l:List I)(t:I),iA (l++[t])=iA l++(fy t++[44])
 |[],t=>by simp[iA]|u::r,t=>by simp only[aKF,iA,SV r t,aKM]
theorem aJm(h:i<l.length):iA (l.take (i+1))=iA (l.take i)++(fy l[i]!++[44]):=by rw[bL h,SV]
theorem SX:∀(l:List I)(i:Nat),(iA (l.take i)).length<=(iA l).length
 |[],i=>by simp[iA]|t::r,0=>by simp[iA]|t::r,i+1=>by
  have:=SX r i;simp only[aLj,iA,List.length_append]at this ⊢;omega
theorem akm:∀{l:List I}{s:List aY}{m:List I},kN l s=some m->m.length=l.length
 |[],s,m,h=>by simp_all[kN]|t::r,s,m,h=>by
  rw[kN]at h;split at h
  ·cases h
  ·cases a:kN r s with
   |none=>rw[a]at h;cases h|some q =>
    rw[a]at h;simp only[Option.map_some,Option.some.injEq]at h;subst h;simp[akm a]
def k2(a:I)(s:List aY):List I->List (List aY)->Int->Option (List (List aY)×Int)
 |[],dz,left=>some (dz,left)|t::bE,dz,left=>if t.name != a.name||decide (t.args.length≠a.args.length)then k2 a s bE dz left
  else if decide (left-1<0)||decide ((if(fk a t s).2 then dz++[(fk a t s).1]else dz).length>5000)then none
  else k2 a s bE (if(fk a t s).2 then dz++[(fk a t s).1]else dz) (left-1)
def my(a:I)(atoms:List I):List (List aY)->List (List aY)->Int->Option (List (List aY)×Int)
 |[],dz,left=>some (dz,left)|s::r,dz,left=>match k2 a s atoms dz left with
  |none=>none|some (jT,h8)=>my a atoms r jT h8
def js(atoms:List I):List Lit->List (List aY)->Int->Option (List (List aY)×Int)
 |[],out,left=>some (out,left)|x::r,out,left=>if x.neg||x.atom.name==eG then js atoms r out left else match my x.atom atoms out [] left with
  |none=>none|some (xu,h8)=>js atoms r xu h8
def qU(n:Nat)(l:List (List aY)):Prop:=∀s∈l,s.length<=n
theorem SY:∀{l:List I}{i:Nat},i<l.length->((c3 l).drop (i*2)).take 1=[.str l[i]!.name]/\((c3 l).drop (i*2+1)).take 1=[.list none 2 (l[i]!.args.map I.enc)]
 |[],i,h=>by simp at h|t::r,0,_=>by simp[c3]|t::r,i+1,h=>by
  have:=SY (l:=r) (i:=i) f8;rw[show(i+1)*2=i*2+2 by omega,show i*2+2+1=i*2+1+2 by omega];simpa[c3]using this
theorem aJn(h:i<l.length):wV 1 (i*2) (some (.buf e (c3 l)))=some [.str l[i]!.name]:=by
 rw[CR,(SY h).1,ll,if_pos am]
theorem aJo(h:i<l.length):wV 1 (i*2+1) (some (.buf e (c3 l)))=some [.list none 2 (l[i]!.args.map I.enc)]:=by
 rw[CR,(SY h).2,ll,if_pos am]
attribute [go_sem 3000] aJn aJo
theorem aJp :o7 s d e 2 K t (.aS 2) (some (2,[.agg [.str [],.aS 2]]))=di { s with heap:=s.heap++[ay.buf e [.str [],.aS 2],.dead] } d (.bI s.heap.length 0 1 2) K ⟨⟩:=by
 rfl
theorem akn:∀l:List I,(c3 l).map AV.a1=c3 l
 |[]=>rfl|t::r=>by simp only[c3,aKB,akn r];rfl
variable {S:List I}
theorem aJq(h:H[id]?=some (.buf e (c3 S))/\n=S.length/\n+1<=M) :
  o7 ⟨e0,H⟩ d e 2 K t (.bI id 0 n 2) (some (2,[.agg [.str [],.aS 2]]))=di ⟨e0,H.set id .dead++[ay.buf e (c3 S++[.str [],.aS 2]),.dead]⟩ d (.bI H.length 0 (n+1) 2) K ⟨⟩:=by
 obtain⟨a,rfl,c⟩:=h;have g:(c3 S).take (S.length*2)=c3 S:=aKO (by rw[ll];omega);simp only[o7,a];rw[if_pos ⟨trivial,trivial,trivial,by rw[ll];omega,iF⟩,g,akn];rfl
theorem ako(x y:AV):∀(S:List I)(a b:AV),setCells (c3 S++[a,b]) (S.length*2) [x,y]=c3 S++[x,y]
 |[],a,b=>rfl|t::r,a,b=>by
  have:=ako x y r a b;rw[aKE,show(r.length+1)*2=r.length*2+2 by omega];simp only[c3,aKF,setCells]at this ⊢;rw[show r.length*2+2+1=r.length*2+1+2 by omega];simp only[List.set_cons_succ];rw[this]
theorem akp:∀(S:List I)(t:I),c3 (S++[t])=c3 S++[.str t.name,.list none 2 (t.args.map I.enc)]
 |[],t=>rfl|u::r,t=>by simp only[aKF,c3,akp r t]
theorem akq{P:Program}{gl:cQ}{D:bj}{b:Bool}{x v:aL} :b4 P gl D s K t (.lW b n x v)=cC (aJ gl s (.lW b n x v)) K ⟨⟩:=_root_.id rfl
variable {t:I}
theorem akr(h:H[id]?=some (.buf e (c3 S++[.str [],.aS 2]))):qe true 2 H (some (.ptr id (S.length*2))) (some t.enc)=some (H.set id (.buf e (c3 (S++[t])))):=by
 have c:(c3 S++[AV.str [],AV.aS 2]).length=S.length*2+2:=by rw[List.length_append,ll];rfl
 have a:t.enc.cells=[.str t.name,.list none 2 (t.args.map I.enc)]:=by rw[t.qC];rfl
 simp only[qe,h];rw[if_pos ⟨trivial,by rw[a];rfl,by rw[a];rfl,by rw[c];omega⟩,a];simp only[aKB,List.map_nil,AV.a1];rw[ako,akp]
theorem aks{o z:Nat}{c:AV}(h:H[id]?=some (.cells [c])):qe false 1 H (some (.ptr id 0)) (some (.bI i o n z))=some (H.set id (.cells [.bI i o n z])):=by
 simp only[qe,h];rfl
def kP(t:I):Option I:=if decide (t.args.length=1)&&(t.name==[105,110,105,116]||t.name==[110,101,120,116])then some (.mk [116,114,117,101] t.args)
 else if decide (t.args.length=2)&&t.name==[108,101,103,97,108]then some (.mk [100,111,101,115] t.args)else none
def rS(S:List I):List aU->List I->Int->Option (List I×Int)
 |[],more,left=>some (more,left)|r::rs,more,left=>match js S r.body [[]] left with
  |none=>none|some (all,h8)=>rS S rs (more++all.filterMap (hv r.head)) h8
def gZ(p:List (ak×Bool)×List I)(t:I):List (ak×Bool)×List I:=if !((getM p.1 (fy t)).getD false)&&decide (cc t<=4)then(fV p.1 (fy t) true,p.2++[t])else p
def qX(t:I):Bool:=decide ((fy t).length<=M)&&decide (cc t<=1000000)
def y8(l:List aU):Nat->List (ak×Bool)×List I->Int->Int->Option Bool
 |0,_,_,_=>none|f+1,p,n,left=>if decide (n<(p.2.length:Int))&&decide (p.2.length<=1000)then(match rS p.2 l [] left with
   |none=>some false|some (more,h8)=>if !((more++p.2.filterMap kP).all qX)then none else y8 l f ((more++p.2.filterMap kP).foldl gZ p) p.2.length h8)
  else some (decide (p.2.length<=1000))
def kb(l:List aU)(given:List I):Option Bool:=if !(given.all qX)then none else y8 l 1003 (given.foldl gZ ([],[])) (-1) 1000000
theorem aky(p:List (ak×Bool)×List I)(t:I):p.2.length<=(gZ p t).2.length/\(gZ p t).2.length<=p.2.length+1:=by
 unfold gZ;split<;>simp
variable {s:ak}
theorem G7(h:eg s=true):xt s=true:=by
 unfold eg nE at h;cases s with
 |nil=>simp at h|cons c r=>simp_all[xt,hs]
theorem G8(h:dM s=true):xt s=false:=by
 unfold dM nE at h;cases s with
 |nil=>rfl|cons c r =>
  simp_all[xt,hs];omega
theorem akO(h:(fw s).isSome=true):xt s=false:=by
 unfold fw at h;cases s with
 |nil=>rfl|cons c r =>
  simp only at h;split at h
  ·rename_i a;have:=List.all_eq_true.1 a.2.2 c be;simp only[eZ,aKI,decide_eq_true_eq]at this;simp only[xt,Bool.and_eq_false_iff,decide_eq_false_iff_not];omega
  ·cases h
theorem Ln{v:Bool}(h:cD n t v=true):mx t=eJ t:=by
 unfold mx eJ;by_cases a:t.args.length=0
 ·rw[decide_eq_true a,Bool.true_and,Bool.true_and];cases n with
  |zero=>cases h|succ n =>
   rw[cD,if_pos a]at h;simp only[aKI,Bool.or_eq_true]at h;obtain⟨_,(h|h)|h⟩:=h
   ·rw[G8 h];cases c:eg t.name with
    |false=>rfl|true=>have:=G7 c;rw[G8 h]at this;cases this
   ·rw[akO h];cases c:eg t.name with
    |false=>rfl|true=>have:=G7 c;rw[akO h]at this;cases this
   ·rw[h.2,G7 h.2]
 ·rw[decide_eq_false a];rfl
def dn(s:List aY):Sub:=s.map λb=>(b.var,b.term)
theorem DG(n:ak):∀s:List aY,jr s n=getM (dn s) n
 |[]=>rfl|b::r=>by
  have ih:=DG n r;unfold jr at ih ⊢;rw[List.find?_cons];simp only[dn,aKB,getM]at ih ⊢;by_cases h:n=b.var
  ·subst h;simp
  ·grind
theorem Tq(u t:I):hi u t=(b6 u t==0):=by
 rw[Bool.eq_iff_iff,JT,beq_iff_eq];exact⟨λh=>by rw[h];exact CZ t,u5 u t⟩
theorem akP:∀(n:Nat)(p g:I)(s:List aY),cD n p true=true->(fk p g s).2=(eA p g (dn s)).1/\((fk p g s).2=true->dn (fk p g s).1=(eA p g (dn s)).2)
 |0,p,g,s,h=>by cases h|n+1,.mk c l,g,s,h=>by
  have j:=Ln h;have o:=tZ h;rw[fk,eA,j];cases C:eJ (.mk c l)with
  |true =>
   simp only[if_true,mn,DG];cases getM (dn s) c with
   |none=>simp[dn]|some u=>simp[Tq]
  |false =>
   simp only[aKU,if_false];by_cases a:c≠g.name\/l.length≠g.args.length
   ·grind
   ·have z:(c != g.name||decide (l.length≠g.args.length))=false:=by
     simp only[not_or,Decidable.not_not]at a;simp[a.1,a.2]
    rw[z,if_neg be,if_neg a];have key:∀(l m:List I)(s:List aY),(∀u∈l,cD n u true=true)->l.length=m.length->(j9 l m s).2=(gj l m (dn s)).1/\((j9 l m s).2=true->dn (j9 l m s).1=(gj l m (dn s)).2):=λl=>by
     induction l with
     |nil=>intro m s _ _;rw[j9,gj];exact⟨rfl,λ_=>rfl⟩;all_goals simp|cons x r ih =>
      intro m s A hm;cases m with
      |nil=>simp at hm|cons y q =>
       obtain⟨B,D⟩:=akP n x y s (A x be);rw[j9,gj,<-B];cases ah:(fk x y s).2 with
       |false=>simp|true=>grind
    simp only[not_or,Decidable.not_not]at a;exact key l g.args s o.2.2.1 a.2
theorem Tr:∀(n:Nat)(t:I)(s:List aY)(u:I),cD n t true=true->hv t s=some u->eD (dn s) t=u
 |0,t,s,u,h,_=>by cases h|n+1,.mk g l,s,u,h,al=>by
  have z:=Ln h;have A:=tZ h;rw[hv,z]at al;rw[C7];cases o:eJ (.mk g l)with
  |true =>
   rw[o]at al;simp only[if_true,DG]at al;show(getM (dn s) g).getD _=u;rw[al];rfl
  |false =>
   rw[o]at al;simp only[aKU,if_false]at al ⊢;have key:∀(l:List I)(m:List I),(∀x∈l,cD n x true=true)->kN l s=some m->l.map (eD (dn s))=m:=λl=>by
    induction l with
    |nil=>simp[kN]|cons x r ih =>
     intro m p h;rw[kN]at h;cases ah:hv x s with
     |none=>rw[ah]at h;cases h|some y =>
      rw[ah]at h;cases c:kN r s with
      |none=>rw[c]at h;cases h|some q =>
       rw[c]at h;simp only[Option.map_some,Option.some.injEq]at h;rw[<-h,aKB,Tr n x s y (p x be) ah,ih q (λu B=>p u (aKG _ B)) c]
   cases c:kN l s with
   |none=>rw[c]at al;cases al|some m =>
    rw[c]at al;simp only[Option.map_some,Option.some.injEq]at al;show(if l.length=0 then I.mk g l else .mk g (l.map _))=u;by_cases j:l.length=0
    ·rw[if_pos j,<-al];cases l with
     |nil=>simp only[kN,Option.some.injEq]at c;rw[<-c]|cons a b=>simp at j
    ·rw[if_neg j,key l m A.2.2.1 c,al]
theorem akQ:∀(n:Nat)(t:I)(s:List aY),cD n t true=true->(∀x∈ck t,eg x=true->(getM (dn s) x).isSome=true)->(hv t s).isSome=true
 |0,t,s,h,_=>by cases h|n+1,.mk g l,s,h,ae=>by
  have p:=Ln h;have q:=tZ h;rw[hv,p];cases j:eJ (.mk g l)with
  |true =>
   rw[if_pos rfl,DG];simp only[eJ,aKI,decide_eq_true_eq]at j;exact ae g (by rw[nJ,if_pos j.1];simp[I.name]) j.2
  |false =>
   rw[if_neg be,Option.isSome_map];have key:∀(l:List I),(∀x∈l,cD n x true=true)->(∀u∈l,∀x∈ck u,eg x=true->(getM (dn s) x).isSome=true)->(kN l s).isSome=true:=λl=>by
    induction l with
    |nil=>intro _ _;rfl|cons x r ih =>
     intro m o;obtain⟨y,z⟩:=Option.isSome_iff_exists.1 (akQ n x s (m x be) (o x be));rw[kN,z];simp only[Option.isSome_map];exact ih (λu a=>m u (aKG _ a)) λu a=>o u (aKG _ a)
   refine key l q.2.2.1 λu a x ah A=>ae x ?_ A;rw[nJ];by_cases c:(I.mk g l).args.length=0
   ·exfalso;simp only[I.args]at c;rw[List.length_eq_zero_iff]at c;rw[c]at a;cases a
   ·rw[if_neg c];exact AT.2 ⟨u,a,ah⟩
mutual
theorem key_inj:∀(t u:I){r r':ak},nd t->nd u->fy t++r=fy u++r'->t=u/\r=r'
 |.mk n l,.mk m k,r,r',h1,a,h=>by
  simp only[nd]at h1 a;simp only[fy,aKM,aKF,aKJ]at h;obtain⟨rfl,e⟩:=Df h1.1 a.1 (Dg _) (Dg _) h;simp only[List.cons.injEq,true_and]at e;obtain⟨rfl,c⟩:=akR l k h1.2 a.2 e;exact⟨rfl,c⟩
theorem akR:∀(l m:List I){r r':ak},qK l->qK m->iA l++41::r=iA m++41::r'->l=m/\r=r'
 |[],[],r,r',_,_,h=>by simpa[iA]using h|[],.mk n k::m,r,r',_,a,h=>by
  simp only[qK,nd]at a;simp only[iA,fy,aKJ,aKM,aKF]at h;cases n with
  |nil=>simp at h|cons c n=>simp at h;exact absurd h.1.symm (a.1.1 c be).2.1
 |.mk n k::l,[],r,r',h1,_,h=>by
  simp only[qK,nd]at h1;simp only[iA,fy,aKJ,aKM,aKF]at h;cases n with
  |nil=>simp at h|cons c n=>simp at h;exact absurd h.1 (h1.1.1 c be).2.1
 |t::l,u::m,r,r',h1,a,h=>by
  simp only[qK]at h1 a;simp only[iA,aKM,aKF,aKJ]at h;obtain⟨rfl,e⟩:=key_inj t u h1.1 a.1 h;simp only[List.cons.injEq,true_and]at e;obtain⟨rfl,g⟩:=akR l m h1.2 a.2 e;exact⟨rfl,g⟩
end
variable {u:I}
theorem akS(a:nd t)(c:nd u)(h:fy t=fy u):t=u:=(key_inj t u (r:=[]) (r':=[]) a c (by rw[h])).1
def xx(A:List I)(p:I)(σ:Sub):List Sub:=(jc A p.name).flatMap λa=>if(eA p a σ).1=true then[(eA p a σ).2]else[]
def exts(A:List I):List Lit->Sub->List Sub
 |[],σ=>[σ]|l::gW,σ=>(jc A l.atom.name).flatMap λa=>if(eA l.atom a σ).1=true then exts A gW (eA l.atom a σ).2 else[]
theorem akT(A:List I)(l:Lit)(c:List Lit)(σ:Sub):exts A (l::c) σ=(xx A l.atom σ).flatMap (exts A c):=by
 rw[exts,xx,List.flatMap_assoc];congr 1;funext a
 by_cases h:(eA l.atom a σ).1=true<;>simp[h]
theorem Ts(S:List I)(c:List Lit)(hd:I):∀(g:List Lit)(σ:Sub),h5 S c hd g σ=((exts S g σ).filter λj=>c.all (o9 S j)).map λj=>eD j hd
 |[],σ=>by
  rw[h5,exts];by_cases h:c.all (o9 S σ)=true<;>simp[h]
 |l::g,σ=>by
  rw[h5,exts,List.filter_flatMap,List.map_flatMap];congr 1;funext a
  by_cases h:(eA l.atom a σ).1=true
  ·rw[if_pos h,if_pos h,Ts S c hd g]
  ·rw[if_neg h,if_neg h];rfl
theorem akU(t:I)(bE:List I)(p:I)(σ:Sub):xx (t::bE) p σ=(if t.name=p.name then(if(eA p t σ).1=true then[(eA p t σ).2]else[])else[])++xx bE p σ:=by
 unfold xx jc;by_cases h:t.name=p.name
 ·grind
 ·grind
def sQ(a:I)(s:List aY)(t:I):Option (List aY):=if(t.name != a.name||decide (t.args.length≠a.args.length))=true then none else if(fk a t s).2=true then some (fk a t s).1 else none
theorem akV{p:I}{s:List aY}(h:cD 4 p true=true)(c:dM p.name=true):∀bE:List I,(bE.filterMap (sQ p s)).map dn=xx bE p (dn s)
 |[]=>rfl|t::bE=>by
  have ih:=akV (s:=s) h c bE;have g:eJ p=false:=by
   rw[<-Ln h,mx,G8 c];simp
  obtain⟨j,o⟩:=akP 4 p t s h;rw[List.filterMap_cons,akU];by_cases a:t.name=p.name
  ·rw[if_pos a];by_cases aG:t.args.length=p.args.length
   ·have e:sQ p s t=if(fk p t s).2=true then some (fk p t s).1 else none:=by unfold sQ;rw[if_neg (by simp[a,aG])]
    rw[e,<-j];cases hm:(fk p t s).2 with
    |true=>grind|false=>grind
   ·have e:sQ p s t=none:=by unfold sQ;rw[if_pos (by simp[aG])]
    have m:(eA p t (dn s)).1=false:=by
     rw[Rg,if_neg (by rw[g];simp),if_pos (.inr λe=>aG e.symm)]
    rw[e,m];simp only[aKU,if_false];rw[ih];rfl
  ·have e:sQ p s t=none:=by unfold sQ;rw[if_pos (by simp[a])]
   rw[e,if_neg a];exact ih
variable {a:I}
theorem Tt{s:List aY}:∀{bE:List I}{c g:List (List aY)}{left m:Int},k2 a s bE c left=some (g,m) ->
  g=c++bE.filterMap (sQ a s)/\(c.length<=5000->g.length<=5000)
 |[],c,g,left,m,h=>by
  simp only[k2,Option.some.injEq,Prod.mk.injEq]at h;simp_all
 |t::bE,c,g,left,m,h=>by
  rw[k2]at h;rw[List.filterMap_cons];by_cases j:(t.name != a.name||decide (t.args.length≠a.args.length))=true
  ·have e:sQ a s t=none:=by unfold sQ;rw[if_pos j]
   rw[if_pos j]at h;rw[e];exact Tt h
  ·have e0:sQ a s t=if(fk a t s).2=true then some (fk a t s).1 else none:=by unfold sQ;rw[if_neg j]
   rw[if_neg j]at h;rw[e0];by_cases o:(decide (left-1<0)||decide ((if(fk a t s).2 then c++[(fk a t s).1]else c).length>5000))=true
   ·rw[if_pos o]at h;cases h
   ·rw[if_neg o]at h;simp only[Bool.or_eq_true,decide_eq_true_eq,not_or]at o;obtain⟨e,ae⟩:=Tt h;cases hm:(fk a t s).2 with
    |true=>grind|false=>grind
variable {A:List I}
theorem akW(m:cD 4 a true=true)(o:dM a.name=true) :∀{out c g:List (List aY)}{left j:Int},my a A out c left=some (g,j) ->
  g.map dn=c.map dn++(out.map dn).flatMap (xx A a)/\(c.length<=5000->g.length<=5000)
 |[],c,g,left,j,h=>by
  simp only[my,Option.some.injEq,Prod.mk.injEq]at h;obtain⟨rfl,_⟩:=h;simp
 |s::out,c,g,left,j,h=>by
  rw[my]at h;split at h
  ·cases h
  ·rename_i B C p;obtain⟨q,r⟩:=Tt p;obtain⟨z,en⟩:=akW m o h;refine⟨?_,λae=>en (r ae)⟩;rw[z,q,List.map_append,akV m o,aKB,List.flatMap_cons,aKM]
theorem Lo :∀{body:List Lit}{out all:List (List aY)}{left g:Int},(∀l∈body,cD 4 l.atom true=true/\dM l.atom.name=true)->js A body out left=some (all,g) ->
  all.map dn=(out.map dn).flatMap (exts A (body.filter dB))/\(out.length<=5000->all.length<=5000)
 |[],out,all,left,g,_,h=>by
  simp only[js,Option.some.injEq,Prod.mk.injEq]at h;obtain⟨rfl,_⟩:=h;refine⟨?_,id⟩;show _=(out.map dn).flatMap λσ=>[σ];rw[List.flatMap_singleton']
 |x::r,out,all,left,g,j,h=>by
  have o:=λl(m:l∈r)=>j l (aKG _ m);rw[js]at h;rw[List.filter_cons];by_cases c:(x.neg||x.atom.name==eG)=true
  ·rw[if_pos c]at h;have:dB x=false:=by rw[dB,<-Bool.not_or,c];rfl
   rw[this];exact Lo o h
  ·rw[if_neg c]at h;have p:(x.neg||x.atom.name==eG)=false:=by simpa using c
   have:dB x=true:=by rw[dB,<-Bool.not_or,p];rfl
   rw[this,if_pos rfl];split at h
   ·cases h
   ·rename_i C D m;obtain⟨q,z⟩:=akW (j x be).1 (j x be).2 m;obtain⟨B,en⟩:=Lo o h;refine⟨?_,λ_=>en (z be)⟩;rw[B,q,List.map_nil,aKJ,List.flatMap_assoc];congr 1;funext σ
    rw[akT]
theorem Tu :∀{b c:List Lit}{out:List (List aY)}{left:Int}{q:List (List aY)×Int},js A (b++c) out left=some q->∃j,js A b out left=some j
 |[],_,out,left,_,_=>⟨(out,left),rfl⟩|x::b,c,out,left,q,h=>by
  rw[aKF,js]at h;rw[js];split at h
  ·rename_i g;rw[if_pos g];exact Tu h
  ·rename_i g;rw[if_neg g];split at h
   ·cases h
   ·exact Tu h
theorem akX{f:I->Nat}:∀{S A:List I},S.Nodup->(∀a∈S,a∈A)->(S.map f).sum<=(A.map f).sum
 |[],A,_,_=>by simp|s::S,A,c,h=>by
  rw[List.nodup_cons]at c;obtain⟨u,v,rfl⟩:=List.append_of_mem (h s be);have:=akX (f:=f) (S:=S) (A:=u++v) c.2 λa aG=>by
   have:=h a (aKG _ aG);simp only[aKS,aKC]at this ⊢;rcases this with h|rfl|h
   ·exact .inl h
   ·exact absurd aG c.1
   ·exact .inr h
  simp only[aKB,List.sum_cons,List.map_append,List.sum_append]at this ⊢;omega
theorem Fu(h:∀a∈S,a∈A):∀(g:List Lit)(σ:Sub),∀j∈exts S g σ,j∈exts A g σ
 |[],σ,j,c=>c|l::g,σ,j,c=>by
  rw[exts,aLc]at c ⊢;obtain⟨a,aG,c⟩:=c;obtain⟨m,o⟩:=aLd.1 aG;refine⟨a,aLd.2 ⟨h a m,o⟩,?_⟩;split at c
  ·rename_i hm;rw[if_pos hm];exact Fu h g _ j c
  ·cases c
theorem Tw(cE:gX A):∀(j:List Lit)(σ:Sub),pY σ->∀g∈exts A j σ,pY g/\∀x,eg x=true->((getM σ x).isSome=true\/∃l∈j,x∈ck l.atom)->(getM g x).isSome=true
 |[],σ,o,g,c=>by
  rw[exts,List.mem_singleton]at c;simp_all
 |l::j,σ,o,g,c=>by
  rw[exts,aLc]at c;obtain⟨a,aG,c⟩:=c;split at c
  ·rename_i hm;obtain⟨q,r⟩:=Tw cE j _ (KW _ _ o (cE a (KB aG))) g c;refine⟨q,λx ah h=>r x ah ?_⟩;rcases h with h|⟨z,m,p⟩
   ·exact .inl (aiI h)
   ·rcases aKC.1 m with rfl|m
    ·exact .inl (RM _ _ _ hm x p ah)
    ·exact .inr ⟨z,m,p⟩
  ·cases c
structure rU(p:List (ak×Bool)×List I):Prop where
 k:∀s,(getM p.1 s).getD false=true↔∃a∈p.2,fy a=s
 d:∀a∈p.2,cc a<=4
theorem rU.nil:rU ([],[]):=⟨λs=>by simp[getM],λa h=>d6⟩
theorem rU.add{p:List (ak×Bool)×List I}(h:rU p)(t:I):rU (gZ p t)/\(cc t<=4->∃a∈(gZ p t).2,fy a=fy t)/\∃x,(gZ p t).2=p.2++x/\∀a∈x,a=t:=by
 unfold gZ;by_cases c:(!((getM p.1 (fy t)).getD false)&&decide (cc t<=4))=true
 ·rw[if_pos c];simp only[aKI,decide_eq_true_eq,Bool.not_eq_true']at c;refine⟨⟨λs=>?_,λa aG=>?_⟩,λ_=>⟨t,be,rfl⟩,[t],rfl,be⟩
  ·simp only[w5];by_cases ax:s=fy t
   ·grind
   ·rw[if_neg ax,h.k];constructor
    ·grind
    ·grind
  ·rcases aKS.1 aG with aG|aG
   ·exact h.d a aG
   ·grind
 ·rw[if_neg c];refine⟨h,λhd=>?_,[],be,be⟩;rw[decide_eq_true hd,Bool.and_true]at c;simp only[Bool.not_eq_true',Bool.not_eq_false]at c;exact(h.k _).1 c
theorem rU.Tx:∀(l:List I){p:List (ak×Bool)×List I},rU p->rU (l.foldl gZ p)/\(∀t∈l,cc t<=4->∃a∈(l.foldl gZ p).2,fy a=fy t)/\∃x,(l.foldl gZ p).2=p.2++x/\∀a∈x,a∈l
 |[],p,h=>⟨h,be,[],be,be⟩|t::l,p,h=>by
  obtain⟨c,o,x,g,q⟩:=h.add t;obtain⟨j,r,y,m,z⟩:=rU.Tx l c;refine⟨j,λu B hd=>?_,x++y,by rw[List.foldl_cons,m,g,aKM],λa aG=>?_⟩
  ·grind
  ·grind
theorem akZ :∀{l:List aU}{more c:List I}{left g:Int},rS S l more left=some (c,g)->(∀t∈more,t∈c) /\
  (∀r∈l,∃j all m,js S r.body [[]] j=some (all,m)/\∀s∈all,∀h,hv r.head s=some h->h∈c)/\(∀t∈c,t∈more\/∃r∈l,∃j all m,js S r.body [[]] j=some (all,m)/\∃s∈all,hv r.head s=some t)
 |[],more,c,left,g,h=>by
  simp only[rS,Option.some.injEq,Prod.mk.injEq]at h;obtain⟨rfl,_⟩:=h;exact⟨λ_ h=>h,be,λt h=>.inl h⟩
 |r::l,more,c,left,g,h=>by
  rw[rS]at h;split at h
  ·cases h
  ·rename_i all z B;obtain⟨p,C,D⟩:=akZ h;refine⟨λt o=>p t (aLl _ o),λq E=>?_,λt o=>?_⟩
   ·grind
   ·grind
theorem TA(cE:gX A){r:aU}(q:RV1 r){left F:Int}{all:List (List aY)}(h:js A r.body [[]] left=some (all,F)) :
  (∀s∈all,∀t,hv r.head s=some t->cD 8 t false=true)/\(∀g∈exts A (r.body.filter dB) [],∃s∈all,hv r.head s=some (eD g r.head))/\∀b c,r.body=b++c->(exts A (b.filter dB) []).length<=5000:=by
 have ae:∀l∈r.body,cD 4 l.atom true=true/\dM l.atom.name=true:=λl z=>q.a _ (by simp only[dx,aKC,aKP];exact .inr ⟨l,z,rfl⟩);have o:=(q.a r.head (by simp[dx])).1;obtain⟨e,b⟩:=Lo ae h;have B:all.map dn=exts A (r.body.filter dB) []:=by rw[e];simp[dn]
 have ah:=Tw cE (r.body.filter dB) [] (λ_ h=>d6);have D:∀g∈exts A (r.body.filter dB) [],∀x∈ck r.head,eg x=true->(getM g x).isSome=true:=λg j x C p=>(ah g j).2 x p (.inr (q.safe C p));refine⟨λs ax t j=>?_,λg j=>?_,λG Q m=>by
  obtain⟨⟨J,R⟩,L⟩:=Tu (by rw[m]at h;exact h);obtain⟨O,en⟩:=Lo (λl z=>ae l (by rw[m];simp[z])) L;rw[show exts A (G.filter dB) []=J.map dn by rw[O];simp[dn],aLe];exact en be⟩
 ·have hm:dn s∈exts A (r.body.filter dB) []:=by rw[<-B];exact aKP.2 ⟨s,ax,rfl⟩
  rw[<-Tr 4 _ _ _ o j];exact Di (n:=4) (ah _ hm).1 o λ_ x C p=>D _ hm x C p
 ·rw[<-B]at j;obtain⟨s,ax,rfl⟩:=aKP.1 j;obtain⟨u,E⟩:=Option.isSome_iff_exists.1 (akQ 4 r.head s o (D _ (by rw[<-B];omega)));exact⟨s,ax,by rw[E,Tr 4 _ _ _ o E]⟩
structure sR(l:List aU)(A:List I):Prop where
 n:A.length<=1000
 v:gX A
 c:∀r∈l,∀iM∈exts A (r.body.filter dB) [],cc (eD iM r.head)<=4->eD iM r.head∈A
 p:∀r∈l,∀b c,r.body=b++c->(exts A (b.filter dB) []).length<=5000
theorem aJY(h:cD 4 t false=true)(c:kP t=some u):cD 4 u false=true:=by
 have key:∀n:ak,dM n=true->t.args.length≠0->cD 4 (.mk n t.args) false=true:=λn m j=>by
  rw[xb]at h ⊢;rw[if_neg j]at h;rw[if_neg (by simpa[I.args]using j)];simp only[aKI,I.args,I.name]at h ⊢;exact⟨h.1,h.2.1,m⟩
 unfold kP at c;split at c
 ·rename_i g;simp only[aKI,decide_eq_true_eq]at g;cases c;exact key _ dw am
 ·split at c
  ·rename_i g;simp only[aKI,decide_eq_true_eq]at g;cases c;exact key _ dw am
  ·cases c
theorem ak1{l:List aU}(z:∀r∈l,RV1 r):∀(f:Nat)(p:List (ak×Bool)×List I)(n left:Int),rU p->gX p.2->(n>=p.2.length->p.2.length<=1000->sR l p.2)->y8 l f p n left=some true->∃A,sR l A/\∀a∈p.2,a∈A
 |0,p,n,left,_,_,_,h=>by cases h|f+1,p,n,left,gq,c,W,h=>by
  rw[y8]at h;split at h
  ·rename_i J;simp only[aKI,decide_eq_true_eq]at J;split at h
   ·cases h
   ·rename_i more X hm;split at h
    ·cases h
    ·obtain⟨m1,C,L⟩:=akZ hm;have o:∀t∈more++p.2.filterMap kP,cD 8 t false=true:=λt g=>by
      rcases aKS.1 g with g|g
      ·rcases L t g with h|⟨r,j,_,all,_,q,s,ax,e⟩
       ·cases h
       ·exact(TA c (z r j) q).1 s ax t e
      ·obtain⟨u,O,e⟩:=List.mem_filterMap.1 g;exact yV (aJY (c u O) e) am
     obtain⟨D,Q,x,m,R⟩:=rU.Tx (more++p.2.filterMap kP) gq;have B:gX ((more++p.2.filterMap kP).foldl gZ p).2:=λa aG=>by
      have hd:=D.d a aG;rw[m]at aG;rcases aKS.1 aG with aG|aG
      ·exact c a aG
      ·exact RJ (o a (R a aG)) hd
     obtain⟨A,cE,ax⟩:=ak1 z f _ _ _ D B (λT E=>by
      have ah:x=[]:=by
       rw[m,List.length_append]at T;exact List.length_eq_zero_iff.1 am
      rw[ah,List.append_nil]at m;rw[m]at E ⊢;refine⟨E,c,λr j V g hd=>?_,λr j=>?_⟩
      ·obtain⟨_,all,_,q,F⟩:=C r j;obtain⟨s,ax,e⟩:=(TA c (z r j) q).2.1 V g;have G:=aLl (p.2.filterMap kP) (F s ax _ e);obtain⟨a,aG,hk⟩:=Q _ G hd;rw[m]at aG;rw[<-akS (ua (c a aG)) (ua (o _ G)) hk];exact aG
      ·obtain⟨_,all,_,q,F⟩:=C r j;exact(TA c (z r j) q).2.2) h
     exact⟨A,cE,λa aG=>ax a (by rw[m];exact aLl _ aG)⟩
  ·grind
theorem aJ0{l:List aU}{g:List I}(o:∀r∈l,RV1 r)(c:∀a∈g,cD 4 a false=true)(h:kb l g=some true):∃A,sR l A/\∀a∈g,a∈A:=by
 unfold kb at h;split at h
 ·cases h
 ·obtain⟨p,q,x,j,z⟩:=rU.Tx g rU.nil;simp only[aKJ]at j;have m:gX (g.foldl gZ ([],[])).2:=λa aG=>c a (z a (by rw[<-j];exact aG));obtain⟨A,cE,ax⟩:=ak1 o _ _ _ _ p m (λB _=>am) h;refine⟨A,cE,λa aG=>ax a ?_⟩;obtain⟨b,ae,e⟩:=q a aG (GH (c a aG));rw[<-akS (ua (m b ae)) (ua (c a aG)) e];exact ae
mutual
def fH(k:Nat):I->Prop|.mk n l=>n.length<=1048576/\l.length<=k/\G9 k l
def G9(k:Nat):List I->Prop|[]=>True|t::r=>fH k t/\G9 k r
end
theorem DI :∀{l:List I},G9 k l↔∀t∈l,fH k t
 |[]=>by simp[G9]|t::r=>by simp only[G9,DI (l:=r),aKC,forall_eq_or_imp]
theorem Ha :fH k t↔t.name.length<=1048576/\t.args.length<=k/\∀u∈t.args,fH k u:=by
 obtain⟨n,l⟩:=t;simp only[fH,DI,I.name,I.args]
def DJ(r:aU):Prop:=fH 1048576 r.head/\∀x∈r.body,fH 1048576 x.atom
structure Lp(P:Program)(T L S B X A9 R DK:TypeId):Prop where
 Lq:Jd P T L S
 bA:∃f0 f1:Field,P.underlying X=some (.struct #[f0,f1])/\f0.type=B/\f0.offset=0/\f1.type=T/\f1.offset=1
 aJ1:P.underlying A9=some (.slice X)
 de:∃f0 f1:Field,P.underlying R=some (.struct #[f0,f1])/\f0.type=T/\f0.offset=0/\f1.type=A9/\f1.offset=2
 aJ2:P.underlying DK=some (.slice R)
 fN:P.underlying B=some .bool
 Lr:P.cellsOf B=1
 ak3:P.cellsOf X=3
 aJ3:P.cellsOf A9=1
 Hb:P.cellsOf R=3
section
variable {H:Type}{enc:TypeId×Value->H}{P:Program}{w:World}{base:Nat}{spare:Nat->Bool}{held:Bool}{γ:fA}{kz:DataW H->Nat}
theorem fX.cat{a b:List AV}{x y:List Value}(h:fX γ a x)(g:fX γ b y):fX γ (a++b) (x++y):=by
 cases h with
 |nil=>exact g|cons c cs v ws p q r=>exact .cons _ _ _ _ p q (fX.cat r g)
variable {z:Nat}
theorem ak4{f:α->List AV} :∀(n off:Nat){Q:α->Prop},(∀i,i<n->∃x:α,(f x).length=z/\fB γ b (off+i*z) (f x)/\Q x)->∃xs:List α,xs.length=n/\fa γ b off z (xs.map λx=>.agg (f x))/\∀x∈xs,Q x
 |0,_,_,_=>⟨[],rfl,.nil _ _ _,λ_ h=>d6⟩|n+1,off,Q,h=>by
  obtain⟨t,c,g,o⟩:=h 0 am;obtain⟨bE,j,m,p⟩:=ak4 n (off+z) (Q:=Q) λi al=>by
   have:=h (i+1) am;rwa[show off+(i+1)*z=off+z+i*z by rw[aKH];omega]at this
  refine⟨t::bE,by simp[j],?_,λx ah=>?_⟩
  ·rw[aKB];exact .cons _ _ _ _ _ c (by simpa[AV.cells]using g) m
  ·grind
variable {d:DataW H}{ps:List MemPlace}
theorem Ls(f:α->List AV)(Q:α->Prop){E L:TypeId}(hk:k<=M)(ae:Ac kz)(cf:P.underlying L=some (.slice E))(G:P.cellsOf E=z+1)(J:∀b o v,w.cell? ⟨b,o,none⟩=some v->γ b o=some v) 
  (ih:∀cs d ps,DataW.trod enc P w base spare held n E cs=some (d,ps)->kz d<=k->∃x:α,fX γ (f x) cs/\Q x){cs:List Value}(h:DataW.trod enc P w base spare held (n+1) L cs=some (d,ps))(hd:kz d<=k) :
  ∃(xs:List α)(v:Value),cs=[v]/\dr γ (.list none (z+1) (xs.map λx=>.agg (f x))) v/\xs.length<=k/\∀x∈xs,Q x:=by
 rcases DataW.trod_slice cf h with⟨rfl,ah⟩|⟨a,len,cap,elems,q,m,hm,rfl,ah,Z,dX,tk,F,O,_⟩
 ·exact⟨[],_,rfl,.kn _ _ _ be,aKZ _,λ_ h=>d6⟩
 ·simp at hm;subst hm;simp only[Prod.mk.injEq]at ah;obtain⟨rfl,_⟩:=ah;have tV:len<=k:=by have:=ae.len (elems.map (·.1)) (q.map (·.1));simp at this;omega
  by_cases R:len=0
  ·subst R;exact⟨[],_,rfl,.kn _ _ _ be,aKZ _,λ_ h=>d6⟩
  ·have g:∀i,i<len->∃c x,fX γ (f x) c/\Q x/\c.length=z+1/\∀k v,c[k]?=some v->w.cell? ((a.add (i*(z+1))).add k)=some v:=λi al=>by
    have j:=O i al;rw[aKD am,Option.bind_eq_some_iff]at j;obtain⟨c,p,r⟩:=j;rw[G]at p;obtain⟨t,T,D⟩:=ih c _ _ (by rw[r]) (aKT (ae.slice _ _ _ (aKP.2 ⟨elems[i],List.getElem_mem _,rfl⟩)) hd);obtain⟨V,W⟩:=asR p;exact⟨c,t,T,D,V,W⟩
   have B:a.spot=none:=by
    obtain⟨c,t,_,_,j,p⟩:=g 0 am;have r:=asS (p 0 _ (aKD am));simpa[Addr.add]using r
   obtain⟨tz,C,sp⟩:=a;simp only at B;subst B;obtain⟨bE,j,p,r⟩:=ak4 (γ:=γ) (f:=f) (b:=tz) (z:=z+1) len C (Q:=Q) λi al=>by
    obtain⟨c,t,j,D,X,p⟩:=g i al;refine⟨t,by rw[<-j.len,X],Xk j λk v Y=>J _ _ _ ?_,D⟩;have:=p k v Y;rwa[n0,n0]at this
   refine⟨bE,_,rfl,?_,am,r⟩;have:=dr.list (γ:=γ) tz C cap (z+1) (bE.map λx=>.agg (f x)) d9 d9 p;rw[aLe,j]at this;exact this
variable {T L S B X A9 R DK:TypeId}
theorem ak7{s:Nat}{l:List AV}(h:dr γ (.list none s l) v):v.oneCell'=true:=by cases h<;>rfl
theorem Lt(ae:Ac kz)(qv:Jd P T L S)(p:∀b o v,w.cell? ⟨b,o,none⟩=some v->γ b o=some v):∀(n:Nat)(cs:List Value)(d:DataW H)(ps:List MemPlace),
  DataW.trod enc P w base spare held n T cs=some (d,ps)->kz d<=1048576->∃t:I,fX γ t.cells cs/\fH 1048576 t
 |0,cs,d,ps,h,_=>by simp[DataW.trod]at h|n+1,cs,d,ps,h,hd=>by
  have Y:M=1099511627776:=rfl;obtain⟨D,E,ej,e0,F,G,J⟩:=qv.ej;obtain⟨xs,m,hm,ah,q,O,r⟩:=DataW.trod_struct ej h;simp at hm;subst hm;rw[qv.Fm]at q
  match cs,q,xs,O with
  |[Z,c1],_,[aM,x1],_ =>
   have j:=r 0 D rfl;have g:=r 1 E rfl;rw[e0,F,qv.OM]at j;rw[G,J,qv.asQ]at g;simp only[aKN,aLj,List.take_zero,aK2,aLm,aLn]at j g;simp only[Prod.mk.injEq]at ah;obtain⟨rfl,_⟩:=ah;obtain⟨s,ax,rfl,_⟩:=DataW.trod_string qv.ds j;have Q:kz x1.1<=1048576:=aKT (ae.agg _ _ be) hd;have V:∃(xs:List I)(v:Value),[c1]=[v]/\dr γ (.list none 2 (xs.map λx:I=>.agg x.cells)) v/\xs.length<=1048576/\∀x∈xs,fH 1048576 x:=by
    cases n with
    |zero=>simp[DataW.trod]at g|succ n=>exact Ls (z:=1) I.cells (fH 1048576) am ae qv.cf qv.Fm p (λcs d ps h hd=>Lt ae qv p n cs d ps h hd) g Q
   obtain⟨bE,v,C,ar,c,W⟩:=V;simp only[List.cons.injEq,and_true]at ax C;subst ax C;have c:s.data.toList.length<=1048576:=aKT (ae.str _) (aKT (ae.agg [.lit (.string s.data.toList),x1.1] _ be) hd);refine⟨.mk s.data.toList bE,?_,Ha.2 ⟨c,mu,W⟩⟩;simp only[I.cells,I.name,I.args];have e:dH bE=bE.map λx:I=>.agg x.cells:=by rw[oj];exact aKQ λt _=>t.yl
   rw[e];refine .cons _ _ _ _ rfl ?_ (.cons _ _ _ _ (ak7 ar) ar .nil);have:=dr.str (γ:=γ) s.data.toList am;simpa using this
theorem aJ4(ae:Ac kz)(qv:Jd P T L S)(c:∀b o v,w.cell? ⟨b,o,none⟩=some v->γ b o=some v){cs:List Value} 
  (h:DataW.trod enc P w base spare held n L cs=some (d,ps))(hd:kz d<=1048576):∃(bE:List I)(v:Value),cs=[v]/\dr γ (Enc.enc bE) v/\bE.length<=1048576/\∀t∈bE,fH 1048576 t:=by
 have p:M=1099511627776:=rfl;cases n with
 |zero=>simp[DataW.trod]at h|succ n =>
  obtain⟨bE,v,j,g,m⟩:=Ls (z:=1) I.cells (fH 1048576) am ae qv.cf qv.Fm c (λcs d ps h hd=>Lt ae qv c n cs d ps h hd) h hd;refine⟨bE,v,j,?_,m⟩;have e:(bE.map λx:I=>AV.agg x.cells)=bE.map I.enc:=aKQ λt _=>t.yl.symm;rw[e]at g;exact g
def Lit.cs(x:Lit):List AV:=.bool x.neg::x.atom.cells
theorem aJ5(ae:Ac kz)(c:Lp P T L S B X A9 R DK)(C:∀b o v,w.cell? ⟨b,o,none⟩=some v->γ b o=some v){cs:List Value} 
  (h:DataW.trod enc P w base spare held n X cs=some (d,ps))(hd:kz d<=1048576):∃x:Lit,fX γ x.cs cs/\fH 1048576 x.atom:=by
 cases n with
 |zero=>simp[DataW.trod]at h|succ n =>
  obtain⟨D,E,bA,e0,F,G,J⟩:=c.bA;obtain⟨xs,m,hm,ah,p,O,q⟩:=DataW.trod_struct bA h;simp at hm;subst hm;rw[c.ak3]at p
  match cs,p,xs,O with
  |[W,c1,c2],_,[Y,x1],_ =>
   have g:=q 0 D rfl;have j:=q 1 E rfl;rw[e0,F,c.Lr]at g;rw[G,J,c.Lq.Fm]at j;simp only[aKN,aLj,List.take_zero,aK2,aLm,aLn]at g j;simp only[Prod.mk.injEq]at ah;obtain⟨rfl,_⟩:=ah;obtain⟨b,r,Z⟩:=DataW.trod_bool c.fN g;simp only[List.cons.injEq,and_true]at r;subst r;obtain⟨t,Q,V⟩:=Lt ae c.Lq C n _ _ _ j (aKT (ae.agg _ _ be) hd);exact⟨⟨b,t⟩,.cons _ _ _ _ rfl (.bool b) Q,V⟩
def aU.cs(r:aU):List AV:=r.head.cells++[.list none 3 (r.body.map λx=>.agg x.cs)]
theorem aJ6(ae:Ac kz)(c:Lp P T L S B X A9 R DK)(j:∀b o v,w.cell? ⟨b,o,none⟩=some v->γ b o=some v){cs:List Value} 
  (h:DataW.trod enc P w base spare held n R cs=some (d,ps))(hd:kz d<=1048576):∃r:aU,fX γ r.cs cs/\DJ r:=by
 have bw:M=1099511627776:=rfl;cases n with
 |zero=>simp[DataW.trod]at h|succ n =>
  obtain⟨E,F,de,e0,G,J,O⟩:=c.de;obtain⟨xs,m,hm,ah,q,Q,C⟩:=DataW.trod_struct de h;simp at hm;subst hm;rw[c.Hb]at q
  match cs,q,xs,Q with
  |[j3,c1,c2],_,[aM,x1],_ =>
   have p:=C 0 E rfl;have g:=C 1 F rfl;rw[e0,G,c.Lq.Fm]at p;rw[J,O,c.aJ3]at g;simp only[aKN,aLj,List.take_zero,aK2,aLm,aLn]at p g;simp only[Prod.mk.injEq]at ah;obtain⟨rfl,_⟩:=ah;obtain⟨t,V,W⟩:=Lt ae c.Lq j n _ _ _ p (aKT (ae.agg _ _ be) hd);have Y:kz x1.1<=1048576:=aKT (ae.agg _ _ be) hd;have Z:∃(xs:List Lit)(v:Value),[c2]=[v]/\dr γ (.list none 3 (xs.map λx:Lit=>.agg x.cs)) v/\xs.length<=1048576/\∀x∈xs,fH 1048576 x.atom:=by
    cases n with
    |zero=>simp[DataW.trod]at g|succ n=>exact Ls (z:=2) Lit.cs (λx=>fH 1048576 x.atom) am ae c.aJ1 c.ak3 j (λcs d ps h hd=>aJ5 ae c j h hd) g Y
   obtain⟨ls,v,D,ar,_,uN⟩:=Z;simp only[List.cons.injEq,and_true]at D;subst D;exact⟨⟨t,ls⟩,fX.cat V (.cons _ _ _ _ (ak7 ar) ar .nil),W,uN⟩
theorem aJ7(ae:Ac kz)(c:Lp P T L S B X A9 R DK)(g:∀b o v,w.cell? ⟨b,o,none⟩=some v->γ b o=some v){cs:List Value} 
  (h:DataW.trod enc P w base spare held n DK cs=some (d,ps))(hd:kz d<=1048576):∃(rs:List aU)(v:Value),cs=[v]/\dr γ (Enc.enc rs) v/\rs.length<=1048576/\∀r∈rs,DJ r:=by
 have D:M=1099511627776:=rfl;cases n with
 |zero=>simp[DataW.trod]at h|succ n =>
  obtain⟨bE,v,p,j,q⟩:=Ls (z:=2) aU.cs DJ am ae c.aJ2 c.Hb g (λcs d ps h hd=>aJ6 ae c g h hd) h hd;refine⟨bE,v,p,?_,q⟩;have m:∀t:I,t.cells=[.str t.name,.list none 2 (t.args.map I.enc)]:=λt=>by rw[I.cells,oj]
  have C:∀x:Lit,AV.agg x.cs=x.enc:=λx=>by rw[Lit.cs,m];rfl
  have e:(bE.map λx:aU=>AV.agg x.cs)=bE.map aU.enc:=aKQ λt _=>by
   rw[aU.cs,m,aKQ λx _=>C x];rfl
  rw[e]at j;exact j
end
end AM
