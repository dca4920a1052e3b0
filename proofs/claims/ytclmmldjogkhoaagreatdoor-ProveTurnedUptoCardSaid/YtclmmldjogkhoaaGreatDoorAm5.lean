/- An abstract machine, and what of the given program it does, part 6. Conditions: none. -/
import Derived.Test.YtclmmldjogkhoaaGreatDoorAm4
import Derived.Maps.Keyed
import Derived.DeepKeys4
set_option linter.unusedVariables false
namespace AM
open List renaming getElem?_eq_some_iff -> I9,pairwise_cons -> LW,pairwise_iff_getElem -> TH,mem_of_getElem? -> aeZ,pairwise_map -> aB5,mem_map -> aB8,getElem?_eq_getElem -> aHk,getElem?_set -> aHV,map_congr_left -> aHW,getElem?_append_left -> aIA
open Bool renaming and_eq_true -> Ja,false_eq_true -> ae0
open Nat renaming le_refl -> fM,lt_trichotomy -> aB9
open Go Go.Maps
section
variable {P:Program}{gl:cp}{N:Nat}{g g':bo}{s s':an}{a:Act}{w w':World}{o:Oper}{γ eQ:e4}
def wP(P:Program):List Nat->List Field->Nat->Bool
 |[],[],_=>true|k::ks,f::dm,i=>f.name != "_"&&f.offset==i&&P.cellsOf f.type==1&&(match P.underlying f.type with|some .string=>k==1|some .bool=>k==2|_=>false)&&wP P ks dm (i+1)|_,_,_=>false
def so(P:Program)(k:TypeId)(ks:List Nat):Bool:=match P.underlying k with
 |some .string=>ks==[1]|some (.struct dm)=>laidOutB P&&decide (k<P.types.size)&&P.keyTypeAt 3 k&&P.keyType k&&ks.length != 1&&P.cellsOf k==ks.length&&wP P ks dm.toList 0|_=>false
variable {k:TypeId}{ks:List Nat}
theorem KK(h:so P k ks=true):Keyed P k:=by
 unfold so at h;split at h
 ·rename_i b;exact string_keyed b
 ·rename_i c b;simp only[Ja,decide_eq_true_eq]at h;exact Keyed.of_law (deep_law_laid h.1.1.1.1.1.1 (by omega) h.1.1.1.1.1.2 h.1.1.1.1.2 (by simp[b]))
 ·cases h
theorem aiT{l:List UInt8}(h:fb ks (.str l)=true):ks=[1]:=by simpa[fb]using h
variable {x:AV}
theorem uW(h:fb ks x=true):(∃l,x=.str l/\ks=[1])\/∃cs,x=.agg cs/\ks.length≠1/\cs.map nd=ks/\∀k∈ks,k=1\/k=2:=by
 cases x<;>simp[fb]at h
 ·exact .inl ⟨_,rfl,h⟩
 ·exact .inr ⟨_,rfl,h.1.1,h.2,h.1.2⟩
variable {c:AV}
theorem CO(h:nd c=1):∃l,c=.str l:=by cases c<;>simp[nd]at h;exact⟨_,rfl⟩
theorem CP(h:nd c=2):∃b,c=.bool b:=by cases c<;>simp[nd]at h;exact⟨_,rfl⟩
theorem aiU:∀{ks:List Nat}{xs ys:List AV}{us vs:List Value},xs.map nd=ks->ys.map nd=ks->(∀k∈ks,k=1\/k=2)->fB γ xs us->fB eQ ys vs ->
  (∃b,eqs xs ys=some b)/\(eqs xs ys=some true↔us=vs)/\(xs=ys↔us=vs):=by
 intro ks;induction ks with
 |nil =>
  intro xs ys us vs ah d _ h U;simp at ah d;subst ah d;cases h;cases U;simp[eqs]
 |cons k ks ih =>
  intro xs ys us vs ah d hk h U;cases xs with
  |nil=>simp at ah|cons x xs =>
   cases ys with
   |nil=>simp at d|cons y ys =>
    simp at ah d;cases h with
    |cons _ _ u us _ i p =>
     cases U with
     |cons _ _ v vs _ j q =>
      obtain⟨⟨b,e⟩,f,n⟩:=ih ah.2 d.2 (fun k r=>hk k (by simp[r])) p q;rcases hk k (by simp)with rfl|rfl
      ·obtain⟨l,rfl⟩:=CO ah.1;obtain⟨m,rfl⟩:=CO d.1;cases i;cases j;refine⟨⟨_,by simp[eqs,qj,e];rfl⟩,?_,by simp[n]⟩;simp only[eqs,qj,e];rw[e]at f;simp only[Option.some.injEq]at f;simp[f]
      ·obtain⟨l,rfl⟩:=CP ah.1;obtain⟨m,rfl⟩:=CP d.1;cases i;cases j;refine⟨⟨_,by simp[eqs,qj,e];rfl⟩,?_,by simp[n]⟩;simp only[eqs,qj,e];rw[e]at f;simp only[Option.some.injEq]at f;simp[f]
variable {y:AV}{u v:Value}
theorem wQ(ah:fb ks x=true)(d:fb ks y=true)(e:df γ x u)(U:df eQ y v):(dB x y=true↔u=v)/\(x=y↔u=v):=by
 rcases uW ah with⟨l,rfl,rfl⟩|⟨cs,rfl,f,i,j⟩
 ·rcases uW d with⟨m,rfl,_⟩|⟨cs,rfl,h,_⟩
  ·cases e;cases U;simp[dB]
  ·simp at h
 ·rcases uW d with⟨m,rfl,h⟩|⟨z,rfl,A,n,_⟩
  ·subst h;simp at f
  ·cases e with
   |agg _ us p =>
    cases U with
    |agg _ vs q =>
     obtain⟨⟨b,B⟩,r,t⟩:=aiU i n j p q;simp only[dB,beq_iff_eq,r,Value.agg.injEq];simp[t]
theorem CQ(ah:fb ks x=true)(b:fb ks y=true)(d:df γ x u)(U:df eQ y v):dB x y=true↔x=y:=by
 rw[(wQ ah b d U).1,(wQ ah b d U).2]
theorem bb.key(ah:fb ks x=true)(h:bb g x v):df γ x v:=by
 rcases uW ah with⟨l,rfl,rfl⟩|⟨cs,rfl,f,i,b⟩
 ·obtain⟨rfl,j⟩:=h.lV;exact .str _ j
 ·obtain⟨ws,rfl,d,U⟩:=h.nW;refine .agg _ _ ?_;subst i;clear f ah h;revert b d;induction ws generalizing cs with
  |nil=>intro d b;cases d;exact .nil|cons w ws ih =>
   intro d b;cases d with
   |cons c cs _ _ e m =>
    refine .cons _ _ _ _ (U w (by simp)) ?_ (ih cs (fun x ah=>U x (by simp[ah])) m (fun k hk=>b k (List.mem_cons_of_mem _ hk)));rcases b (nd c) (by simp)with hk|hk
    ·obtain⟨l,rfl⟩:=CO hk;obtain⟨rfl,h⟩:=e.lV;exact .str _ h
    ·obtain⟨l,rfl⟩:=CP hk;have:=e.nV;subst this;exact .bool _
theorem aiV{n:Nat}{full:List Value}:∀(d:List Field)(ks:List Nat)(i:Nat)(cs:List AV)(ws:List Value),wP P ks d i=true->full.drop i=ws->fB γ cs ws->cs.map nd=ks ->
  ∃r,(d.mapM fun f=>P.keyLits (n+1) f.type ((full.drop f.offset).take (P.cellsOf f.type)))=some r:=by
 intro d;induction d with
 |nil=>intro ks i cs ws h _ _ _;exact⟨[],by simp⟩|cons f d ih =>
  intro ks i cs ws h m ao hk;cases ks with
  |nil=>simp[wP]at h|cons k ks =>
   simp only[wP,Ja,beq_iff_eq]at h;obtain⟨⟨⟨⟨D,U⟩,q⟩,b⟩,t⟩:=h;cases cs with
   |nil=>simp at hk|cons c cs =>
    simp at hk;cases ao with
    |cons _ _ v ws E p z =>
     have A:full.drop (i+1)=ws:=by
      rw[<-List.drop_drop,m];simp
     obtain⟨r,B⟩:=ih ks (i+1) cs ws t A z hk.2;have C:(full.drop f.offset).take (P.cellsOf f.type)=[v]:=by rw[U,q,m];simp
     have:∃l,P.keyLits (n+1) f.type [v]=some l:=by
      split at b
      ·rename_i e;simp at b;obtain⟨l,rfl⟩:=CO (hk.1.trans b);cases p with
       |str _ j =>
        refine⟨_,by simp only[Program.keyLits,e];rw[if_pos];simp[ByteArray.size];unfold M at j;unfold maxLen;omega⟩
      ·rename_i e;simp at b;obtain⟨l,rfl⟩:=CP (hk.1.trans b);cases p;exact⟨_,by simp only[Program.keyLits,e];rfl⟩
      ·cases b
     obtain⟨l,j⟩:=this;refine⟨l::r,?_⟩;rw[List.mapM_cons,C,j];simp only[Option.bind_eq_bind,Option.bind_some,B];rfl
theorem R6:∀{b:List Field}{ks:List Nat}{i:Nat},wP P ks b i=true->∀f∈b,(f.name != "_")=true
 |[],_,_,_,_,h=>by simp at h|f::b,[],_,h,_,_=>by simp[wP]at h|f::b,k::ks,i,h,e,d=>by
  simp only[wP,Ja,beq_iff_eq]at h;rcases List.mem_cons.1 d with rfl|d
  ·exact h.1.1.1.1
  ·exact R6 h.2 e d
theorem fB.len:∀{ws:List Value}{cs:List AV},fB γ cs ws->ws.length=cs.length
 |[],_,h=>by cases h;rfl|_::_,_,.cons _ _ _ _ _ _ h=>by simp[fB.len h]
theorem Gc(hk:so P k ks=true)(ah:fb ks x=true)(h:df γ x v):∃l,keyOf P k v=some l:=by
 unfold so at hk;split at hk
 ·rename_i d;simp at hk;subst hk;rcases uW ah with⟨l,rfl,_⟩|⟨cs,rfl,h,_⟩
  ·cases h with
   |str _ p=>exact⟨_,by simp only[keyOf,d,mapKey];rw[if_pos];simp[ByteArray.size];unfold M at p;unfold maxLen;omega⟩
  ·simp at h
 ·rename_i e d;simp only[Ja,decide_eq_true_eq,beq_iff_eq,bne_iff_ne]at hk;obtain⟨⟨⟨⟨⟨⟨_,U⟩,_⟩,q⟩,t⟩,f⟩,i⟩:=hk;rcases uW ah with⟨l,rfl,z⟩|⟨cs,rfl,_,j,D⟩
  ·subst z;simp at t
  ·cases h with
   |agg _ ws ao =>
    have b:ws.length=ks.length:=by
     rw[<-j,List.length_map];exact ao.len
    obtain⟨m,hm⟩:∃m,P.types.size=m+1:=⟨P.types.size-1,by have:0<P.types.size:=Nat.lt_of_le_of_lt (Nat.zero_le _) U;exact(Nat.succ_pred_eq_of_pos this).symm⟩;obtain⟨r,A⟩:=aiV (P:=P) (n:=m) (full:=ws) e.toList ks 0 cs ws i rfl ao j;have B:(Value.agg ws.toArray).formed P k=true:=by simp[Value.formed,d,b,f]
    have C:e.all (·.name != "_")=true:=by
     rw[<-Array.all_toList,List.all_eq_true];exact R6 i
    refine⟨_,by
     simp only[keyOf,d,q,B,Bool.and_self,if_true];show(P.keyLits (P.types.size+1) k ws.toArray.toList).map _=_;simp only[Program.keyLits,d];rw[if_pos ⟨by rw[b,f],C⟩,hm,A];rfl⟩
 ·cases hk
end
section
variable {P:Program}{gl:cp}{N:Nat}{g g':bo}{s s':an}{a:Act}{w w':World}{o:Oper}{γ eQ:e4}
theorem Rel.KM(h:Rel P gl N g s a w)(x:Obj)(bA:ax)
  (l:∀g',(∀b,g'.bD b=(g.iO w.heap.size (.bA s.heap.length)).bD b)->GhLe g g'->g'.b4 s.heap.length=some w.heap.size->sd P g' (w.alloc x) s.heap.length bA) :
  ∃g',ef g w g' (w.alloc x)/\Rel P gl N g' { s with heap:=s.heap++[bA] } a (w.alloc x)/\g'.b4 s.heap.length=some w.heap.size:=by
 obtain⟨m,d⟩:=h.alloc x (.bA s.heap.length);let c:bo:={ g.iO w.heap.size (.bA s.heap.length)with b4:=fun id=>if id=s.heap.length then some w.heap.size else g.b4 id }
 have f:GhLe (g.iO w.heap.size (.bA s.heap.length)) c:=⟨fun _ _ _ h=>h,fun id b i=>by
  have:=h.fE id b i;simp[c,show id≠s.heap.length by omega];exact i⟩
 have hk:∀K,Kept (g.iO w.heap.size (.bA s.heap.length)) (w.alloc x) c (w.alloc x) K:=fun K b _=>⟨rfl,rfl,fun _=>rfl⟩;have k:ef g w c (w.alloc x):=m.trans ⟨f,fun b ae=>⟨ae,rfl,fun _=>rfl⟩,fM _,rfl,rfl⟩;refine⟨c,k,?_,by simp[c]⟩;refine⟨d.sorted,d.size,d.defers,fun t e he=>(d.env t e he).kept f (hk fun _=>True) trivial trivial (fun _=>trivial),fun id n j=>?_,d.ff,d.own,d.gz,fun id b i=>?_⟩
 ·simp only at j;rcases aB9 id s.heap.length with p|rfl|q
  ·rw[aIA p]at j;exact(d.heap id n j).kept f (hk fun _=>True) (fun _=>trivial) (fun _=>trivial)
  ·simp at j;subst j;exact l c (fun _=>rfl) k.toGhLe (by simp[c])
  ·grind
 ·simp only[List.length_append,List.length_singleton];by_cases e:id=s.heap.length
  ·omega
  ·simp[c,e]at i;have:=h.fE id b i;omega
theorem aiW(id:Nat):cP (.map id):=fun _ _ _ h=>by simp at h
def KN(N:Nat)(o:Oper)(d:Nat):Bool:=cB N o d&&(match o.op with|.makeMap _ none=>true|_=>false)
theorem run_makeMap{t:TypeId}:(Instr.makeMap t none).run P w=.ok (.map (some w.heap.size)) (w.alloc (.map #[] 0)):=by
 simp[Instr.makeMap,newObj,Sem.run]
theorem aiX{d:Nat}(h:Rel P gl N g s a w)(b:KN N o d=true)(he:aH gl s (.ux d)=some s'):dR P gl N o g a w s':=by
 simp only[KN,Ja]at b;obtain⟨hd,c⟩:=b;split at c
 ·rename_i t aA;simp only[aH]at he;simp only[cB,Ja,beq_iff_eq,decide_eq_true_eq]at hd;obtain⟨g',e,f,i⟩:=h.KM (.map #[] 0) (.map 0 []) (fun g' j U k =>
   ⟨w.heap.size,k,#[],heap_alloc_new w _,by rw[j];simp[bo.iO],⟨[],.nil,rfl,by simp⟩,by simp,by simp,by simp,[],by simp⟩)
  refine⟨.map (some w.heap.size),w.alloc (.map #[] 0),g',.inl ?_,e,?_⟩
  ·simp only[execOp,aA,Option.map_none,Sem.run_bind,run_makeMap,Result.andThen_ok,Sem.run_pure]
  ·rw[hd.1];exact f.put he hd.2 (.map _ _ i) (aiW _).gb
 ·cases c
variable {es:List (AV×AV)}{x:AV}
theorem aiY(h:∀e∈es,dB x e.1=false):gG es x=none:=by
 induction es with
 |nil=>rfl|cons e r ih =>
  obtain⟨k,v⟩:=e;have:=h (k,v) (by simp);simp only at this;simp[gG,this,ih fun e he=>h e (by simp[he])]
theorem aiZ{k v:AV}(he:(k,v)∈es)(hk:dB x k=true)(d:∀e∈es,dB x e.1=true->e.1=k)(ao:es.Pairwise fun x y=>x.1≠y.1):gG es x=some v:=by
 induction es with
 |nil=>simp at he|cons e r ih =>
  obtain⟨b,f⟩:=e;obtain⟨h,i⟩:=LW.1 ao;simp only[gG];by_cases c:dB x b=true
  ·have:=d (b,f) (by simp) c;simp only at this;subst this;rcases List.mem_cons.1 he with U|U
   ·simp at U;simp[c,U]
   ·exact absurd (rfl:b=b) (h (b,v) U)
  ·grind
variable {ks:List Nat}
theorem ai0{b:List Nat}(h:kG ks es=true)(c:∀e∈es,fb b e.1=true):∀e∈es,fb ks e.1=true:=by
 cases es with
 |nil=>simp|cons e r =>
  obtain⟨k,v⟩:=e;have d:=c (k,v) (by simp);simp only[kG]at h;have:ks=b:=by
   rcases uW h with⟨l,rfl,U⟩|⟨cs,rfl,_,U,_⟩
   ·exact U.trans (aiT d).symm
   ·rcases uW d with⟨l,h,_⟩|⟨f,h,_,i,_⟩
    ·cases h
    ·cases h;exact U.symm.trans i
  subst this;exact c
structure jI(P:Program)(g:bo)(w:World)(id b n:Nat)(es:List (AV×AV))(ks:List Nat)(arr:Array MapEntry)(cX:List (AV×AV)):Prop where
 lu:w.heap[b]?=some (.map arr n)
 own:g.bD b=.bA id
 perm:cX.Perm es
 len:cX.length=arr.toList.length
 at_:∀(i:Nat)e m,cX[i]?=some e->arr.toList[i]?=some m->z1 P g w id e m
 born:arr.toList.Pairwise (fun x y=>x.born<y.born)
 lt:∀m∈arr.toList,m.born<n
 uniq:es.Pairwise (fun x y=>dB x.1 y.1=false)
 fit:∀e∈es,fb ks e.1=true
theorem mz.at{id b n:Nat}(h:mz P g w id b n es)(c:kG ks es=true):∃arr cX,jI P g w id b n es ks arr cX:=by
 obtain⟨arr,d,U,⟨cX,e,f,i⟩,j,k,l,p,m⟩:=h;exact⟨arr,cX,d,U,e,f,i,j,k,l,ai0 c m⟩
section
variable {id b n:Nat}{es cX:List (AV×AV)}{ks:List Nat}{arr:Array MapEntry}
theorem jI.other(h:jI P g w id b n es ks arr cX){m:MapEntry}(hm:m∈arr.toList):∃(i:Nat)(e:AV×AV),cX[i]?=some e/\arr.toList[i]?=some m/\e∈es/\z1 P g w id e m:=by
 obtain⟨i,ak,d⟩:=List.getElem_of_mem hm;have f:i<cX.length:=by rw[h.len];exact ak
 have c:cX[i]?=some cX[i]:=by simp[f]
 have U:arr.toList[i]?=some m:=by rw[aHk ak,d]
 exact⟨i,_,c,U,h.perm.mem_iff.1 (aeZ c),h.at_ i _ _ c U⟩
theorem jI.uX(h:jI P g w id b n es ks arr cX){e:AV×AV}(he:e∈es):∃(i:Nat)(m:MapEntry),cX[i]?=some e/\arr.toList[i]?=some m/\z1 P g w id e m:=by
 obtain⟨i,ak,d⟩:=List.getElem_of_mem (h.perm.mem_iff.2 he);have f:i<arr.toList.length:=by rw[<-h.len];exact ak
 have c:cX[i]?=some e:=by rw[aHk ak,d]
 have U:arr.toList[i]?=some arr.toList[i]:=aHk f;exact⟨i,_,c,U,h.at_ i _ _ c U⟩
theorem jI.ne(h:jI P g w id b n es ks arr cX):es.Pairwise fun x y=>x.1≠y.1:=by
 refine List.Pairwise.imp_of_mem ?_ h.uniq;intro x y ah c d e;obtain⟨_,m,_,_,f,_⟩:=h.uX ah;have:=(CQ (h.fit x ah) (h.fit y c) (bb.key (γ:=g.γ) (h.fit x ah) f) (bb.key (γ:=g.γ) (h.fit y c) (e▸f))).2 e;rw[this]at d;cases d
theorem jI.find(h:jI P g w id b n es ks arr cX){p:TypeId}(hk:so P p ks=true){kk:AV}{v:Value}(c:fb ks kk=true)(D:bb g kk v) :
  (∀r,(Instr.checkKey r 10000 p v).run P w=.ok () w) /\
  (((Instr.findKey p v arr.toList).run P w=.ok none w/\gG es kk=none/\(∀e∈es,dB kk e.1=false)/\∀m∈arr.toList,m.key≠v) \/
   ∃(j:Nat)(m:MapEntry)(x:AV),(Instr.findKey p v arr.toList).run P w=.ok (some (j,m.val)) w/\arr.toList[j]?=some m/\m.key=v/\cX[j]?=some (kk,x)/\gG es kk=some x/\z1 P g w id (kk,x) m):=by
 have K:=KK hk;have f:=bb.key (γ:=g.γ) c D;obtain⟨l,y⟩:=Gc hk c f;have E:∀m∈arr.toList,∃l,keyOf P p m.key=some l:=fun m hm=>by
  obtain⟨i,e,_,_,he,q⟩:=h.other hm;exact Gc hk (h.fit e he) (bb.key (γ:=g.γ) (h.fit e he) q.1)
 refine⟨fun r=>K.check w r y,?_⟩;rcases K.find w y arr.toList E with⟨t,U⟩|⟨j,m,t,U,z⟩
 ·have cc:∀e∈es,dB kk e.1=false:=fun e he=>by
   obtain⟨i,m,_,hm,q⟩:=h.uX he;cases F:dB kk e.1 with
   |false=>rfl|true =>
    have:=(wQ c (h.fit e he) f (bb.key (γ:=g.γ) (h.fit e he) q.1)).1.1 F;exact absurd this.symm (U m (aeZ hm))
  exact .inl ⟨t,aiY cc,cc,U⟩
 ·obtain⟨i,e,ak,hm,he,q⟩:=h.other (aeZ U);have A:j<cX.length:=by rw[h.len];exact(I9.1 U).1
  have B:cX[j]?=some cX[j]:=by simp[A]
  have C:=h.at_ j _ _ B U;have u:cX[j]∈es:=h.perm.mem_iff.1 (List.getElem_mem A);have G:=bb.key (γ:=g.γ) (h.fit _ u) C.1;have d:=(wQ c (h.fit _ u) f G).2.2 z.symm;refine .inr ⟨j,m,cX[j].2,t,U,z,?_,?_,?_⟩
  ·rw[B,d]
  ·refine aiZ (k:=kk) (by rw[d];exact u) ((wQ c c f f).1.2 rfl) (fun e he H=>?_) h.ne;obtain⟨_,L,_,_,J⟩:=h.uX he;exact((CQ c (h.fit e he) f (bb.key (γ:=g.γ) (h.fit e he) J.1)).1 H).symm
  ·rw[d];exact C
end
def Sa(P:Program)(t:TypeId)(z:AV):Bool:=match P.info? t with
 |some i=>(match i.zero with|some v=>const v z|none=>false)|none=>false
def KO(P:Program)(N:Nat)(o:Oper)(ks:List Nat)(d:Nat)(m k:aI)(zero:AV)(ok:Bool):Bool:=cB N o d &&
 (match o.op with
  |.lookup t fx k' wS=>ds fx m&&ds k' k&&wS==ok&&(match P.underlying t with|some (.map ei hc)=>so P ei ks&&Sa P hc zero|_=>false)|_=>false)
variable {t ei hc:TypeId}{b n:Nat}{arr:Array MapEntry}{k:Value}{ok:Bool}
theorem Sb{x:Value}{j:Nat}(c:P.underlying t=some (.map ei hc))(ae:w.heap[b]?=some (.map arr n))
  (d:∀e,(Instr.checkKey e 10000 ei k).run P w=.ok () w)(U:(Instr.findKey ei k arr.toList).run P w=.ok (some (j,x)) w) :
  (Instr.lookup t (.map (some b)) k ok).run P w=.ok (if ok=true then .tuple #[x,.bool true]else x) w:=by
 simp only[Instr.lookup,Sem.run_bind,run_underlying c,Result.andThen_ok,MapKept.run_getObj_map ae,Sem.run_pure,d,U]
variable {z:Value}{i:TypeInfo}
theorem Sc(c:P.underlying t=some (.map ei hc))(ae:w.heap[b]?=some (.map arr n))
  (d:∀e,(Instr.checkKey e 10000 ei k).run P w=.ok () w)(U:(Instr.findKey ei k arr.toList).run P w=.ok none w)(ak:P.info? hc=some i)(f:i.zero=some z) :
  (Instr.lookup t (.map (some b)) k ok).run P w=.ok (if ok=true then .tuple #[z,.bool false]else z) w:=by
 simp only[Instr.lookup,Sem.run_bind,run_underlying c,Result.andThen_ok,MapKept.run_getObj_map ae,Sem.run_pure,d,U,zeroValue,typeInfo,run_program,ak,f]
theorem ai1(c:P.underlying t=some (.map ei hc))
  (d:∀e,(Instr.checkKey e 10000 ei k).run P w=.ok () w)(U:(Instr.findKey ei k []).run P w=.ok none w)(ak:P.info? hc=some i)(f:i.zero=some z) :
  (Instr.lookup t (.map none) k ok).run P w=.ok (if ok=true then .tuple #[z,.bool false]else z) w:=by
 simp only[Instr.lookup,Sem.run_bind,run_underlying c,Result.andThen_ok,Sem.run_pure,d,U,zeroValue,typeInfo,run_program,ak,f]
variable {v:Value}{c:Bool}
theorem bb.opt(h:bb g x v)(ok:Bool):bb g (if ok=true then .a8 [x,.bool c]else x) (if ok=true then .tuple #[v,.bool c]else v):=by
 cases ok with
 |false=>exact h|true=>exact .a8 _ [v,.bool c] (.cons _ _ _ _ h (.cons _ _ _ _ (.pure _ _ (.bool _)) .nil))
theorem KP(h:cP x)(ok:Bool):cP (if ok=true then .a8 [x,.bool c]else x):=by
 cases ok with
 |false=>exact h|true=>intro e sz xs h;simp at h
theorem ai2{z:AV}(h:const v z=true):cP z:=by
 have:=JI (γ:=fun _ _=>none) h;intro e sz xs d;subst d;cases this
theorem ai3{d:Nat}{m k:aI}{zero:AV}(h:Rel P gl N g s a w)(J:KO P N o ks d m k zero ok=true)(he:aH gl s (.look ks d m k zero ok)=some s'):dR P gl N o g a w s':=by
 simp only[KO,Ja]at J;obtain⟨hd,f⟩:=J;split at f
 ·rename_i t fx k' r aA;simp only[Ja,beq_iff_eq]at f;obtain⟨⟨⟨hm,hk⟩,rfl⟩,f⟩:=f;split at f
  ·rename_i ei hc C;simp only[Ja]at f;obtain⟨D,p⟩:=f;unfold Sa at p;split at p
   ·rename_i i ak;split at p
    ·rename_i U L;have O:bb g zero U:=.pure _ _ (JI p);have Q:=ai2 p;simp only[aH]at he;split at he
     ·rename_i id V E F;split at he
      ·rename_i KQ es W;split at he
       ·rename_i u;simp only[Ja]at u;obtain⟨b,X,Y⟩:=h.heap _ _ W;obtain⟨arr,cX,A⟩:=Y.at u.2;obtain⟨bU,G,R⟩:=(c9 h hm E).uI;rw[X]at G;simp at G;subst G;have H:=c9 h hk F;obtain⟨S,Z⟩:=A.find D u.1 H;rcases Z with⟨y,B,_⟩|⟨j,lx,x,y,B,f3,f4,f5,f6⟩
        ·rw[B]at he;refine .value h hd he ?_ (O.opt r) (KP Q r);simp only[execOp,aA,R,Sem.run_bind,Sc C A.lu S y ak L,Result.andThen_ok,Sem.run_pure]
        ·rw[f5]at he;refine .value h hd he ?_ (bb.opt (bb.aW f6.2.2.1) r) (KP (cP.aW _) r);simp only[execOp,aA,R,Sem.run_bind,Sb C A.lu S y,Result.andThen_ok,Sem.run_pure]
       ·cases he
      ·cases he
     ·rename_i V E F;split at he
      ·rename_i u;have q:=(c9 h hm E).JW;have H:=c9 h hk F;have K:=KK D;obtain⟨l,T⟩:=Gc D u (bb.key (γ:=g.γ) u H);refine .value h hd he ?_ (O.opt r) (KP Q r);rcases K.find w T [] (by simp)with⟨y,_⟩|⟨j,e,_,B,_⟩
       ·simp only[execOp,aA,q,Sem.run_bind,ai1 C (fun em=>K.check w em T) y ak L,Result.andThen_ok,Sem.run_pure]
       ·simp at B
      ·cases he
     ·cases he
    ·cases p
   ·cases p
  ·cases f
 ·cases f
end
section
variable {P:Program}{gl:cp}{N:Nat}{g g':bo}{s s':an}{a:Act}{w w':World}{o:Oper}{γ eQ:e4}
def lY(w:World)(b:Nat)(arr:Array MapEntry)(n:Nat):World:={ w with heap:=w.heap.setIfInBounds b (.map arr n) }
variable {b n n':Nat}{arr arr':Array MapEntry}
theorem KR(h:w.heap[b]?=some (.map arr n)):(lY w b arr' n').heap[b]?=some (.map arr' n'):=by
 have:=(Array.getElem?_eq_some_iff.1 h).1;simp[lY,this]
theorem Aq{k:Nat}(h:k≠b):(lY w b arr' n').heap[k]?=w.heap[k]?:=by
 simp[lY,Array.getElem?_setIfInBounds_ne (Ne.symm h)]
theorem Sf :(lY w b arr' n').heap.size=w.heap.size:=by simp[lY]
variable {id:Nat}
theorem sd.ai4{q:Nat}{o:ax}(h:sd P g w q o)(j:q≠id)(ae:g.b4 id=some b)(aA:g.bD b=.bA id)(r:w.heap[b]?=some (.map arr n))(Z:n<=n')
  (D:n'=n->∀m∈arr'.toList,∃t∈arr.toList,t.born=m.born/\t.key=m.key):sd P g (lY w b arr' n') q o:=by
 have y:GhLe g g:=⟨fun _ _ _ h=>h,fun _ _ h=>h⟩;have hk:Kept g w g (lY w b arr' n') fun o=>o≠.bA id:=fun k hk=>⟨rfl,Aq (fun e=>hk (by rw[e,aA])),fun _=>rfl⟩;cases o with
 |cells cs=>obtain⟨c,d,f⟩:=h;exact⟨c,d,f.kept y hk (by simp[j]) (by simp)⟩
 |buf e cs =>
  obtain⟨c,k,d,f,l,⟨arr,i,E⟩,F⟩:=h;have u:g.bD c=.bA q:=l.choose_spec.choose_spec.2.2.1;refine⟨c,k,d,f,l.kept y hk (by simp[j]) (by simp),⟨arr,?_,E⟩,F⟩;exact(hk c (by rw[u];simp[j])).2.1.trans i
 |map n es=>obtain⟨c,d,f⟩:=h;exact⟨c,d,f.kept y hk (by simp[j]) (by simp)⟩
 |iter m since seen =>
  obtain⟨c,o,d,f,l,i⟩:=h;refine⟨c,o,d,(hk c (by rw[l];simp[j])).2.1.trans f,l,?_⟩;cases m with
  |none =>
   cases o<;>first|exact i|skip
   rename_i mp _ _ _;cases mp<;>exact i
  |some mid =>
   cases o<;>try exact i
   rename_i mp s gH last;cases mp with
   |none=>exact i|some bj =>
    obtain⟨v,p,u,z,A,G,H,x,J⟩:=i;by_cases hm:mid=id
    ·subst hm;rw[ae]at v;simp at v;subst v;rw[r]at x;simp at x;obtain⟨rfl,rfl⟩:=x;refine⟨ae,p,u,z,?_,arr',n',KR r,by omega⟩;obtain⟨L,K,O,Q,R,S⟩:=A;refine⟨L,K,O,Q,R,fun T aE m hm=>?_⟩;rw[KR r]at aE;simp at aE;obtain⟨rfl,rfl⟩:=aE;have B:n'=n:=by omega
     obtain⟨t,V,W,U⟩:=D B m hm;subst B;obtain⟨k,X,Y⟩:=S _ r t V;exact⟨k,by rw[<-W];exact X,by rw[<-U];exact Y⟩
    ·have C:bj≠b:=fun e=>by rw[e,aA]at p;simp at p;exact hm p.symm
     exact⟨v,p,u,z,A.kept (Aq C),G,H,(Aq C).trans x,J⟩
 |dead=>trivial
theorem Rel.Ge(h:Rel P gl N g s a w){es cX es2 es2':List (AV×AV)}{ks:List Nat}(ae:g.b4 id=some b)(A:jI P g w id b n es ks arr cX)(q:n<=n')
  (r:es2'.Perm es2)(d:es2'.length=arr'.toList.length)(u:∀(i:Nat)e m,es2'[i]?=some e->arr'.toList[i]?=some m->z1 P g w id e m)
  (z:arr'.toList.Pairwise fun x y=>x.born<y.born)(B:∀m∈arr'.toList,m.born<n')(j:es2.Pairwise fun x y=>dB x.1 y.1=false)(C:∀e∈es2,fb ks e.1=true)
  (D:n'=n->∀m∈arr'.toList,∃p∈arr.toList,p.born=m.born/\p.key=m.key) :
  ef g w g (lY w b arr' n')/\Rel P gl N g { s with heap:=s.heap.set id (.map n' es2) } a (lY w b arr' n'):=by
 have l:GhLe g g:=⟨fun _ _ _ h=>h,fun _ _ h=>h⟩;have hk:Kept g w g (lY w b arr' n') fun o=>o≠.bA id:=fun k hk=>⟨rfl,Aq (fun e=>hk (by rw[e,A.own])),fun _=>rfl⟩;refine⟨⟨l,fun k hk=>⟨hk,Aq (fun e=>by rw[e,A.own]at hk;cases hk),fun _=>rfl⟩,by rw[Sf];exact fM _,rfl,rfl⟩,?_⟩;refine⟨h.sorted,h.size,h.defers,fun t e he=>(h.env t e he).kept l hk (by simp) (by simp) (by simp),fun E bA c=>?_,fun k off v F=>?_,fun k hk=>by rw[Sf];exact h.own k hk,h.gz,fun i b ak=>by simpa using h.fE i b ak⟩
 ·simp only at c;rw[aHV]at c;split at c
  ·rename_i e;subst e;split at c
   ·simp at c;subst c;refine⟨b,ae,arr',KR A.lu,A.own,⟨es2',r,d,fun i e m he hm=>?_⟩,z,B,j,ks,C⟩;obtain⟨G,H,J,K⟩:=u i e m he hm;exact⟨G,H,J,K.kept l hk (by simp)⟩
   ·cases c
  ·rename_i e;exact(h.heap E bA c).ai4 (fun h=>e h.symm) ae A.own A.lu q D
 ·have f:=h.ff k off v F;by_cases e:k=b
  ·subst e;unfold World.cell? at f;rw[A.lu]at f;simp at f
  ·unfold World.cell? at f ⊢;rw[Aq e];exact f
section
variable {id b n:Nat}{es cX:List (AV×AV)}{ks:List Nat}{arr:Array MapEntry}
def oO(kk x:AV)(e:AV×AV):AV×AV:=if dB kk e.1=true then(e.1,x)else e
variable {kk x:AV}
theorem KS :∀{es:List (AV×AV)},es.Pairwise (fun e c=>dB kk e.1=true->dB kk c.1=false)->iJ es kk x=es.map (oO kk x)
 |[],_=>rfl|(k,u)::r,h=>by
  obtain⟨d,U⟩:=LW.1 h;simp only[iJ,List.map_cons,oO];by_cases hk:dB kk k=true
  ·simp only[hk,if_true,List.cons.injEq,true_and];have:∀e∈r,oO kk x e=e:=fun e he=>by simp[oO,d e he hk]
   rw[aHW this];simp
  ·simp only[hk,ae0,if_false,KS U]
theorem Sg :∀{es:List (AV×AV)},es.Pairwise (fun e c=>dB kk e.1=true->dB kk c.1=false)->uz es kk=es.filter (fun e=>!dB kk e.1)
 |[],_=>rfl|(k,u)::r,h=>by
  obtain⟨d,U⟩:=LW.1 h;simp only[uz,List.filter_cons];by_cases hk:dB kk k=true
  ·simp only[hk,if_true,Bool.not_true,ae0,if_false];rw[List.filter_eq_self.2];intro e he;simp[d e he hk]
  ·simp only[hk,ae0,if_false,Sg U];simp
theorem As :∀{es:List (AV×AV)},(tf es kk x).Perm ((kk,x)::es)
 |[]=>.refl _|(k,u)::r=>by
  simp only[tf];split
  ·exact .refl _
  ·exact((As (es:=r)).cons _).trans (.swap _ _ _)
variable {v:Value}
theorem jI.once(A:jI P g w id b n es ks arr cX)(f:fb ks kk=true)(i:bb g kk v) :
  (∀e∈es,dB kk e.1=true↔kk=e.1)/\∀l:List (AV×AV),l.Perm es->l.Pairwise (fun e j=>dB kk e.1=true->dB kk j.1=false):=by
 have c:∀e∈es,dB kk e.1=true↔kk=e.1:=fun e he=>by
  obtain⟨_,m,_,_,q⟩:=A.uX he;exact CQ f (A.fit e he) (bb.key (γ:=g.γ) f i) (bb.key (γ:=g.γ) (A.fit e he) q.1)
 refine⟨c,fun l d=>?_⟩;have:l.Pairwise fun x y=>x.1≠y.1:=(d.symm.pairwise_iff (fun{x y}(h:x.1≠y.1)=>h.symm)).1 A.ne;refine List.Pairwise.imp_of_mem ?_ this;intro x y ah k p hk;cases r:dB kk y.1 with
 |false=>rfl|true=>exact absurd (((c x (d.mem_iff.1 ah)).1 hk).symm.trans ((c y (d.mem_iff.1 k)).1 r)) p
variable {y:AV}
theorem KT :∀{l:List (AV×AV)}{j:Nat},l[j]?=some (kk,y)->dB kk kk=true->l.Pairwise (fun e d=>dB kk e.1=true->dB kk d.1=false)->l.set j (kk,x)=l.map (oO kk x)
 |[],j,h,_,_=>by simp at h|e::r,0,h,hk,ao=>by
  simp at h;subst h;obtain⟨c,U⟩:=LW.1 ao;simp only[List.set_cons_zero,List.map_cons,oO,hk,if_true,List.cons.injEq,true_and];have:∀e∈r,oO kk x e=e:=fun e he=>by simp[oO,c e he hk]
  rw[aHW this];simp
 |e::r,j+1,h,hk,ao=>by
  obtain⟨c,U⟩:=LW.1 ao;simp only[List.set_cons_succ,List.map_cons,List.cons.injEq];have hm:(kk,y)∈r:=aeZ (by simpa using h);refine⟨?_,KT (j:=j) (by simpa using h) hk U⟩;cases he:dB kk e.1 with
  |false=>simp[oO,he]|true=>have:=c _ hm he;simp only at this;rw[hk]at this;cases this
theorem erase_filter :∀{l:List (AV×AV)}{j:Nat},l[j]?=some (kk,y)->dB kk kk=true->l.Pairwise (fun e d=>dB kk e.1=true->dB kk d.1=false)->l.eraseIdx j=l.filter (fun e=>!dB kk e.1)
 |[],j,h,_,_=>by simp at h|e::r,0,h,hk,ao=>by
  simp at h;subst h;obtain⟨c,U⟩:=LW.1 ao;simp only[List.eraseIdx_cons_zero,List.filter_cons,hk,Bool.not_true,ae0,if_false];rw[List.filter_eq_self.2];intro e he;simp[c e he hk]
 |e::r,j+1,h,hk,ao=>by
  obtain⟨c,U⟩:=LW.1 ao;have hm:(kk,y)∈r:=aeZ (by simpa using h);have he:dB kk e.1=false:=by grind
  simp only[List.eraseIdx_cons_succ,List.filter_cons,he,Bool.not_false,if_true,List.cons.injEq,true_and];exact erase_filter (by simpa using h) hk U
theorem jI.self(c:fb ks kk=true)(d:bb g kk v):dB kk kk=true :=
 (wQ c c (bb.key (γ:=g.γ) c d) (bb.key (γ:=g.γ) c d)).1.2 rfl
theorem KU{arr:Array MapEntry}(j:Nat)(f:MapEntry->MapEntry)(i:Nat):(arr.modify j f).toList[i]?=if j=i then arr.toList[i]?.map f else arr.toList[i]?:=by grind
theorem ai6{l c:List MapEntry}(h:l.Pairwise fun x y=>x.born<y.born)(he:c.map (·.born)=l.map (·.born)):c.Pairwise fun x y=>x.born<y.born:=by
 have d:(l.map (·.born)).Pairwise (·<·):=aB5.2 h;rw[<-he]at d;exact aB5.1 d
theorem Sh(h:fb ks x=true):hD x=true:=by
 rcases uW h with⟨l,rfl,_⟩|⟨cs,rfl,_,d,e⟩
 ·rfl
 ·simp only[hD,List.all_eq_true];intro c f;rcases e (nd c) (by rw[<-d];exact aB8.2 ⟨c,f,rfl⟩)with hk|hk
  ·obtain⟨l,rfl⟩:=CO hk;rfl
  ·obtain⟨l,rfl⟩:=CP hk;rfl
def CT(P:Program)(o:Oper)(ks:List Nat)(m k v:aI):Bool:=o.dst==none &&
 (match o.op with
  |.mapUpdate t fx k' cQ=>ds fx m&&ds k' k&&ds cQ v&&(match P.underlying t with|some (.map ei _)=>so P ei ks|_=>false)|_=>false)
variable {t ei hc:TypeId}{k:Value}
theorem ai7{b n j:Nat}{arr:Array MapEntry}{m:MapEntry}{x:Value}(c:P.underlying t=some (.map ei hc))(ae:w.heap[b]?=some (.map arr n))
  (d:∀f,(Instr.checkKey f 10000 ei k).run P w=.ok () w)(U:(Instr.findKey ei k arr.toList).run P w=.ok (some (j,x)) w)(hm:arr.toList[j]?=some m)(hk:m.key=k)
  (az:(Instr.keyThatStays k k).run P w=.ok k w) :
  (Instr.mapUpdate t (.map (some b)) k v).run P w=.ok () (lY w b (arr.modify j fun e=>{ e with key:=k,val:=v }) n):=by
 have h:((arr[j]?).map (·.key)).getD k=k:=by grind
 simp only[Instr.mapUpdate,Sem.run_bind,run_underlying c,Result.andThen_ok,MapKept.run_getObj_map ae,d,U,h,az,MapKept.run_setObj_map _ ae,lY]
theorem ai8{b n:Nat}{arr:Array MapEntry}(c:P.underlying t=some (.map ei hc))(ae:w.heap[b]?=some (.map arr n))
  (d:∀e,(Instr.checkKey e 10000 ei k).run P w=.ok () w)(U:(Instr.findKey ei k arr.toList).run P w=.ok none w) :
  (Instr.mapUpdate t (.map (some b)) k v).run P w=.ok () (lY w b (arr.push { key:=k,val:=v,born:=n }) (n+1)):=by
 simp only[Instr.mapUpdate,Sem.run_bind,run_underlying c,Result.andThen_ok,MapKept.run_getObj_map ae,d,U,MapKept.run_setObj_map _ ae,lY]
theorem Si(h:Rel P gl N g s a w)(ae:g.b4 id=some b)(A:jI P g w id b n es ks arr cX)(S:P.underlying t=some (.map ei hc))(hk:so P ei ks=true)
  {c:Value}(f:fb ks kk=true)(r:bb g kk c)(ah:bb g x v)(aA:∀born,(gG es kk=none->born=n)->(∀(j:Nat)y m,gG es kk=some y->cX[j]?=some (kk,y)->arr.toList[j]?=some m->born=m.born)->e6 P g w (.oc id born) x v) :
  ∃w',(Instr.mapUpdate t (.map (some b)) c v).run P w=.ok () w'/\ef g w g w'/\Rel P gl N g { s with heap:=s.heap.set id (oG n es kk x) } a w':=by
 obtain⟨T,lW⟩:=A.find hk f r;obtain⟨KV,F⟩:=A.once f r;have G:dB kk kk=true:=jI.self f r;rcases lW with⟨H,U,u,V⟩|⟨j,lx,y,H,u,V,z,W,f7⟩
 ·refine⟨_,ai8 S A.lu T H,?_⟩;have J:=aA n (fun _=>rfl) (fun j y m B=>by rw[U]at B;cases B);have:=h.Ge (n':=n+1) (es2:=tf es kk x) (es2':=cX++[(kk,x)]) (arr':=arr.push { key:=c,val:=v,born:=n }) ae A (by omega)
   ((List.perm_append_comm.trans (A.perm.cons _)).trans As.symm) (by simp[A.len]) (fun i e m he hm=>by
    simp only[Array.toList_push]at hm;by_cases ak:i<cX.length
    ·rw[aIA ak]at he;rw[aIA (by rw[<-A.len];exact ak)]at hm;exact A.at_ i e m he hm
    ·rw[List.getElem?_append_right (by omega)]at he;rw[List.getElem?_append_right (by rw[<-A.len];omega)]at hm;have bJ:i-cX.length=0:=by grind
     rw[<-A.len]at hm;rw[bJ]at he hm;simp at he hm;subst he hm;exact⟨r,Sh f,ah,J⟩)
   (by
    simp only[Array.toList_push];refine List.pairwise_append.2 ⟨A.born,by simp,fun x ah y B=>?_⟩;simp at B;subst B;exact A.lt x ah)
   (fun m hm=>by
    simp only[Array.toList_push,List.mem_append,List.mem_singleton]at hm;rcases hm with hm|rfl
    ·have:=A.lt m hm;omega
    ·simp)
   (by
    have aGy:((kk,x)::es).Pairwise fun x y=>dB x.1 y.1=false:=LW.2 ⟨fun e he=>u e he,A.uniq⟩;have K:((kk,x)::es).Pairwise fun x y=>x.1≠y.1:=LW.2 ⟨(fun e he X=>by
     have:=u e he;simp only at X;rw[(KV e he).2 X]at this;cases this),A.ne⟩
    have L:(tf es kk x).Pairwise fun x y=>x.1≠y.1:=(As.symm.pairwise_iff (fun{x y}(h:x.1≠y.1)=>h.symm)).1 K;refine List.Pairwise.imp_of_mem ?_ L;intro p q ao bd KW;have Y:∀p∈(kk,x)::es,fb ks p.1=true/\∃v,df g.γ p.1 v:=fun p ao=>by
     rcases List.mem_cons.1 ao with rfl|ao
     ·exact⟨f,c,bb.key f r⟩
     ·obtain⟨_,m,_,_,q⟩:=A.uX ao;exact⟨A.fit p ao,m.key,bb.key (A.fit p ao) q.1⟩
    obtain⟨dC,v1,a2⟩:=Y p (As.mem_iff.1 ao);obtain⟨eg,v2,e7⟩:=Y q (As.mem_iff.1 bd);cases a7:dB p.1 q.1 with
    |false=>rfl|true=>exact absurd ((CQ dC eg a2 e7).1 a7) KW)
   (fun e he=>by
    rcases List.mem_cons.1 (As.mem_iff.1 he)with rfl|he
    ·exact f
    ·exact A.fit e he)
   (fun h=>by omega)
  simp only[oG,U];exact this
 ·have O:(Instr.keyThatStays c c).run P w=.ok c w:=by
   obtain⟨l,aD⟩:=Gc hk f (bb.key (γ:=g.γ) f r);exact(KK hk).stays w aD
  refine⟨_,ai7 S A.lu T H u V O,?_⟩;have J:=aA lx.born (fun h=>by rw[W]at h;cases h) (fun D gR fx B E hm=>by
   have KX:D=j:=by
    have d:=F cX A.perm;rcases aB9 D j with C|he|C
    ·have:=TH.1 d D j (I9.1 E).1 (I9.1 z).1 C;rw[(I9.1 E).2,(I9.1 z).2]at this;simp only[G,forall_const]at this;cases this
    ·exact he
    ·have:=TH.1 d j D (I9.1 z).1 (I9.1 E).1 C;rw[(I9.1 E).2,(I9.1 z).2]at this;simp only[G,forall_const]at this;cases this
   subst KX;rw[u]at hm;simp at hm;rw[hm])
  have oK:=KT (kk:=kk) (x:=x) z G (F cX A.perm);have Q:=KS (kk:=kk) (x:=x) (F es (.refl _));have KY:∀l:List (AV×AV),(l.map (oO kk x)).map (·.1)=l.map (·.1):=fun l=>by
   rw[List.map_map];refine aHW fun e _=>?_;simp only[Function.comp,oO];split<;>rfl
  have Z:(arr.modify j fun e=>{ e with key:=c,val:=v }).toList.map (·.born)=arr.toList.map (·.born):=by
   apply List.ext_getElem?;intro i;simp only[List.getElem?_map,KU];split
   ·cases arr.toList[i]?<;>rfl
   ·rfl
  have:=h.Ge (n':=n) (es2:=iJ es kk x) (es2':=cX.set j (kk,x)) (arr':=arr.modify j fun e=>{ e with key:=c,val:=v }) ae A (fM _)
   (by rw[oK,Q];exact A.perm.map _) (by simp[A.len]) (fun i e m he hm=>by
    rw[KU]at hm;rw[aHV]at he;by_cases iN:j=i
    ·subst iN;simp only[if_true,u,Option.map_some,Option.some.injEq]at hm;have C:j<cX.length:=(I9.1 z).1;simp only[if_true,C,Option.some.injEq]at he;subst he hm;exact⟨r,Sh f,ah,J⟩
    ·simp only[iN,if_false]at he hm;exact A.at_ i e m he hm)
   (ai6 A.born Z)
   (fun m hm=>by
    have:m.born∈(arr.modify j fun e=>{ e with key:=c,val:=v }).toList.map (·.born):=aB8.2 ⟨m,hm,rfl⟩;rw[Z]at this;obtain⟨m0,R,d⟩:=aB8.1 this;rw[<-d];exact A.lt m0 R)
   (by
    have d:(es.map (·.1)).Pairwise fun x y=>dB x y=false:=aB5.2 A.uniq;rw[Q];rw[<-KY es]at d;exact aB5.1 d)
   (fun e he=>by
    rw[Q]at he;obtain⟨e0,R,rfl⟩:=aB8.1 he;have:=A.fit e0 R;simp only[oO];split<;>exact this)
   (fun _ m hm=>by
    obtain⟨i,ak,tn⟩:=List.getElem_of_mem hm;have d:(arr.modify j fun e=>{ e with key:=c,val:=v }).toList[i]?=some m:=by rw[aHk ak,tn]
    rw[KU]at d;split at d
    ·grind
    ·exact⟨m,aeZ d,rfl,rfl⟩)
  simp only[oG,W];exact this
end
end
section
variable {P:Program}{gl:cp}{N:Nat}{g g':bo}{s s':an}{a:Act}{w w':World}{o:Oper}{γ eQ:e4}
variable {ks:List Nat}{m k:aI}
theorem ajc{v:aI}(h:Rel P gl N g s a w)(f:CT P o ks m k v=true)(he:aH gl s (.pr ks m k v)=some s'):dR P gl N o g a w s':=by
 simp only[CT,Ja,beq_iff_eq]at f;obtain⟨hd,c⟩:=f;split at c
 ·rename_i t E F G aA;simp only[Ja]at c;obtain⟨⟨⟨hm,hk⟩,j⟩,c⟩:=c;split at c
  ·rename_i H J l;simp only[aH]at he;split at he
   ·rename_i id K x p q r;split at he
    ·rename_i n es u;split at he
     ·rename_i d;simp only[Ja]at d;simp at he;subst he;obtain⟨b,i,y⟩:=h.heap _ _ u;obtain⟨arr,cX,A⟩:=y.at d.2;obtain⟨L,e,z⟩:=(c9 h hm p).uI;rw[i]at e;simp at e;subst e;obtain⟨w',B,C,D⟩:=Si h i A l c d.1 (c9 h hk q) (c9 h j r).aW (fun _ _ _=>cP.gb (cP.aW x));refine⟨undef,w',g,.inr ⟨?_,rfl⟩,C,?_⟩
      ·simp only[execOp,aA,z,Sem.run_bind,B,Result.andThen_ok,Sem.run_pure]
      ·rw[hd];exact D
     ·cases he
    ·cases he
   ·cases he
  ·cases c
 ·cases c
def KZ(P:Program)(o:Oper)(ks:List Nat)(m k:aI)(v:Nat):Bool:=CT P o ks m k (.t v)
theorem ajd{v:Nat}(h:Rel P gl N g s a w)(af:KZ P o ks m k v=true)(he:aH gl s (.qh ks m k v)=some s'):dR P gl N o g a w s':=by
 simp only[KZ,CT,Ja,beq_iff_eq]at af;obtain⟨hd,i⟩:=af;split at i
 ·rename_i t B k' cQ aA;simp only[Ja]at i;obtain⟨⟨⟨hm,hk⟩,ar⟩,i⟩:=i;have dU:cQ=.tmp v:=by unfold ds at ar;split at ar<;>simp_all
  subst dU;split at i
  ·rename_i ei hc hu;simp only[aH]at he;split at he
   ·rename_i id f e sz xs aN aX V;split at he
    ·rename_i n es bM;split at he
     ·rename_i c;simp only[Ja]at c;obtain⟨b,bO,bY⟩:=h.heap _ _ bM;obtain⟨arr,cX,A⟩:=bY.at c.2;obtain⟨bU,W,au⟩:=(c9 h hm aN).uI;rw[bO]at W;simp at W;subst W;have p:=c9 h hk aX;obtain⟨ai,aY⟩:=h.strip V;obtain⟨u,aK,aQ,X⟩:=h.env _ _ V;have nh:=F9 s v sz xs
      -- the owner that the entry names
      have Ar:∃born,(gG es f=none->born=n)/\∀(j:Nat)y m,gG es f=some y->cX[j]?=some (f,y)->arr.toList[j]?=some m->born=m.born:=by
       obtain⟨_,F⟩:=A.find i c.1 p;obtain⟨_,Y⟩:=A.once c.1 p;have G:dB f f=true:=jI.self c.1 p;rcases F with⟨_,O,_⟩|⟨j,C,y,_,H,_,l,Q,_⟩
       ·simp_all
       ·refine⟨C.born,(fun h=>by rw[Q]at h;cases h),fun d gR B Z D hm=>?_⟩;have KX:d=j:=by
         have J:=Y cX A.perm;rcases aB9 d j with q|he|q
         ·have:=TH.1 J d j (I9.1 D).1 (I9.1 l).1 q;rw[(I9.1 D).2,(I9.1 l).2]at this;simp only[G,forall_const]at this;cases this
         ·exact he
         ·have:=TH.1 J j d (I9.1 l).1 (I9.1 D).1 q;rw[(I9.1 D).2,(I9.1 l).2]at this;simp only[G,forall_const]at this;cases this
        subst KX;rw[H]at hm;simp at hm;rw[hm]
      obtain⟨born,ep,eh⟩:=Ar;have Ki:∃g',ef g w g' w/\Rel P gl N g' { s with env:=s.env.ins v (.v (.list none sz xs)) } a w/\e6 P g' w (.oc id born) (.list (some e) sz xs) u:=by
       cases ae:u.ownBlock with
       |none=>exact⟨g,ef.refl _ _,aY,X.free ae⟩|some b =>
        obtain⟨nX,z,vs,m1,m2,m3,m4,m5,m6,CE,m7,m8⟩:=X e sz xs rfl;obtain⟨E,R⟩:=aY.pass (.var v) (.oc id born) nh (by simp) (m8 b ae).1 (by simp);exact⟨_,E,R,X.pass b ae⟩
      obtain⟨g',E,R,fm⟩:=Ki;obtain⟨e7,s1,s2⟩:=R.heap _ _ bM;have:e7=b:=by have:=E.b4 _ _ bO;rw[s1]at this;simpa using this
      subst this;obtain⟨ri,K,S⟩:=s2.at c.2;have yv:ri=arr:=by have:=S.lu;rw[A.lu]at this;simp at this;exact this.symm
      subst yv;have Sj:=p.mono E.toGhLe
      -- the two ways to lay the entries side by side agree at this key
      have aGz:∀(j:Nat)y m,gG es f=some y->K[j]?=some (f,y)->ri.toList[j]?=some m->born=m.born:=by
       intro j y m Z D L;obtain⟨_,F⟩:=A.find i c.1 p;rcases F with⟨_,O,_⟩|⟨r,C,cU,_,H,f4,l,Q,f7⟩
       ·rw[O]at Z;cases Z
       ·have rj:=eh r cU C Q l H;have aw:=S.at_ j _ _ D L;have wT:m.key=C.key:=by
         have:=(wQ c.1 c.1 (bb.key (γ:=g'.γ) c.1 aw.1) (bb.key (γ:=g.γ) c.1 p)).2.1 rfl;rw[this,f4]
        -- keys of the block differ
        have Sk:r<cX.length:=(I9.1 l).1;have cc:∀d B,ri.toList[d]?=some B->B.key=C.key->d=r:=by
         intro d B qp jG;have T:d<cX.length:=by rw[A.len];exact(I9.1 qp).1
         have mC:=A.at_ d cX[d] B (by simp[T]) qp;have Sl:=A.fit _ (A.perm.mem_iff.1 (List.getElem_mem T));have Sm:f=cX[d].1:=(wQ c.1 Sl (bb.key (γ:=g.γ) c.1 p) (bb.key (γ:=g.γ) Sl mC.1)).2.2 (by rw[jG,f4]);have G:dB f f=true:=jI.self c.1 p;obtain⟨_,Y⟩:=A.once c.1 p;have J:=Y cX A.perm;rcases aB9 d r with q|he|q
         ·have:=TH.1 J d r T Sk q;rw[(I9.1 l).2,<-Sm]at this;simp only[G,forall_const]at this;cases this
         ·exact he
         ·have:=TH.1 J r d Sk T q;rw[(I9.1 l).2,<-Sm]at this;simp only[G,forall_const]at this;cases this
        have:=cc j m L wT;subst this;rw[H]at L;simp at L;rw[rj,L]
      obtain⟨w',t1,t2,t3⟩:=Si (x:=.list (some e) sz xs) (v:=u) R s1 S hu i c.1 Sj (aQ.mono E.toGhLe) (fun aje c1 c2=>by
       have:aje=born:=by
        cases U:gG es f with
        |none=>rw[c1 U,ep U]|some y =>
         obtain⟨_,F⟩:=S.find i c.1 Sj;rcases F with⟨_,O,_⟩|⟨r,C,cU,_,H,f4,l,Q,f7⟩
         ·rw[O]at U;cases U
         ·grind
       subst this;exact fm)
      have n3:({ s with heap:=s.heap.set id (oG n es f (.list (some e) sz xs)) }:an).put v (.list none sz xs)=some { env:=s.env.ins v (.v (.list none sz xs)),heap:=s.heap.set id (oG n es f (.list (some e) sz xs)) }:=by
       simp[an.put,eH,V]
      rw[n3]at he;simp at he;subst he;refine⟨undef,w',g',.inr ⟨?_,rfl⟩,E.trans t2,?_⟩
      ·have dJ:a.eval (.tmp v)=u:=by simp[Act.eval,aK]
       simp only[execOp,aA,au,dJ,Sem.run_bind,t1,Result.andThen_ok,Sem.run_pure]
      ·rw[hd];exact t3
     ·cases he
    ·cases he
   ·cases he
  ·cases i
 ·cases i
def K0(P:Program)(N:Nat)(o:Oper)(ks:List Nat)(d:Option Nat)(m k:aI):Bool:=(match d with|some d=>cB N o d|none=>o.dst==none) &&
 (match si o.op with
  |some (.delete,[fx,k'],t::_)=>ds fx m&&ds k' k&&(match P.underlying t with|some (.map ei _)=>so P ei ks|_=>false)|_=>false)
variable {t ty ei hc:TypeId}{bu:List TypeId}{b n j:Nat}{arr:Array MapEntry}
theorem ajf{k x:Value}(c:P.underlying t=some (.map ei hc))(ae:w.heap[b]?=some (.map arr n))
  (d:∀e,(Instr.checkKey e 10000 ei k).run P w=.ok () w)(U:(Instr.findKey ei k arr.toList).run P w=.ok (some (j,x)) w) :
  (Builtin.delete_ (t::bu).toArray ty #[.map (some b),k]).run P w=.ok (.tuple #[]) (lY w b (arr.eraseIdxIfInBounds j) n):=by
 have f:((t::bu).toArray[0]?:Option TypeId)=some t:=by simp
 simp only[Builtin.delete_,f,List.getElem?_toArray,List.getElem?_cons_zero,List.getElem?_cons_succ,Sem.run_bind,run_underlying c,Result.andThen_ok,MapKept.run_getObj_map ae,d,U,MapKept.run_setObj_map _ ae,Sem.run_pure,lY]
theorem ajg{k:Value}(c:P.underlying t=some (.map ei hc))(ae:w.heap[b]?=some (.map arr n))
  (d:∀e,(Instr.checkKey e 10000 ei k).run P w=.ok () w)(U:(Instr.findKey ei k arr.toList).run P w=.ok none w) :
  (Builtin.delete_ (t::bu).toArray ty #[.map (some b),k]).run P w=.ok (.tuple #[]) (lY w b arr n):=by
 have f:((t::bu).toArray[0]?:Option TypeId)=some t:=by simp
 simp only[Builtin.delete_,f,List.getElem?_toArray,List.getElem?_cons_zero,List.getElem?_cons_succ,Sem.run_bind,run_underlying c,Result.andThen_ok,MapKept.run_getObj_map ae,d,U,MapKept.run_setObj_map _ ae,Sem.run_pure,lY]
variable {kk:AV}{es:List (AV×AV)}
theorem filter_none(h:∀e∈es,dB kk e.1=false):es.filter (fun e=>!dB kk e.1)=es:=List.filter_eq_self.2 fun e he=>by simp[h e he]
variable {id:Nat}{cX:List (AV×AV)}{lZ:Value}
theorem ajh(h:Rel P gl N g s a w)(ae:g.b4 id=some b)(A:jI P g w id b n es ks arr cX)(r:P.underlying t=some (.map ei hc))(hk:so P ei ks=true)
  (d:fb ks kk=true)(f:bb g kk lZ)(ty:TypeId)(bu:List TypeId) :
  ∃w',(Builtin.delete_ (t::bu).toArray ty #[.map (some b),lZ]).run P w=.ok (.tuple #[]) w'/\ef g w g w'/\Rel P gl N g { s with heap:=s.heap.set id (.map n (uz es kk)) } a w':=by
 obtain⟨u,z⟩:=A.find hk d f;obtain⟨G,v⟩:=A.once d f;have B:dB kk kk=true:=jI.self d f;have c:=Sg (kk:=kk) (v es (.refl _));rcases z with⟨l,H,x,C⟩|⟨j,J,y,l,x,C,D,K,L⟩
 ·refine⟨_,ajg r A.lu u l,?_⟩;rw[c,filter_none x];exact h.Ge ae A (fM _) A.perm A.len A.at_ A.born A.lt A.uniq A.fit (fun _ m hm=>⟨m,hm,rfl,rfl⟩)
 ·refine⟨_,ajf r A.lu u l,?_⟩;have E:j<arr.size:=by grind
  have p:(arr.eraseIdxIfInBounds j).toList=arr.toList.eraseIdx j:=by
   simp[Array.eraseIdxIfInBounds,E]
  have q:List.Sublist (arr.eraseIdxIfInBounds j).toList arr.toList:=by rw[p];exact List.eraseIdx_sublist _ _
  have F:=erase_filter (kk:=kk) (j:=j) D B (v cX A.perm);have:=h.Ge (n':=n) (es2:=uz es kk) (es2':=cX.eraseIdx j) (arr':=arr.eraseIdxIfInBounds j) ae A (fM _)
   (by rw[F,c];exact A.perm.filter _)
   (by rw[p];simp only[List.length_eraseIdx,A.len])
   (fun i e m he hm=>by
    rw[p]at hm;rw[List.getElem?_eraseIdx]at he hm;split at he
    ·rename_i ak;rw[if_pos ak]at hm;exact A.at_ _ e m he hm
    ·rename_i ak;rw[if_neg ak]at hm;exact A.at_ _ e m he hm)
   (A.born.sublist q) (fun m hm=>A.lt m (q.subset hm))
   (by rw[c];exact A.uniq.sublist List.filter_sublist)
   (fun e he=>by rw[c]at he;exact A.fit e (List.mem_filter.1 he).1)
   (fun _ m hm=>⟨m,q.subset hm,rfl,rfl⟩)
  exact this
theorem aji{d:Option Nat}(h:Rel P gl N g s a w)(l:K0 P N o ks d m k=true)(he:aH gl s (.ps ks d m k)=some s'):dR P gl N o g a w s':=by
 simp only[K0,Ja]at l;obtain⟨hd,c⟩:=l;split at c
 ·rename_i E F t bu e;simp only[Ja]at c;obtain⟨⟨hm,hk⟩,c⟩:=c;split at c
  ·rename_i ei hc r;simp only[aH]at he;split at he
   ·rename_i id kk u v;split at he
    ·rename_i n es x;split at he
     ·rename_i f;simp only[Ja]at f;obtain⟨b,p,y⟩:=h.heap _ _ x;obtain⟨arr,cX,A⟩:=y.at f.2;obtain⟨G,i,z⟩:=(c9 h hm u).uI;rw[p]at i;simp at i;subst i;obtain⟨w',B,C,q⟩:=ajh h p A r c f.1 (c9 h hk v) o.type bu;refine⟨.tuple #[],w',g,.inl ?_,C,?_⟩
      ·obtain⟨H,D⟩:=uH (o:=o) e rfl a.eval;rw[D];simp only[List.map_cons,List.map_nil,builtin,z,Sem.run_bind,B,Result.andThen_ok,Sem.run_pure]
      ·cases d with
       |none =>
        simp[an.fr]at he;subst he;simp only[beq_iff_eq]at hd;rw[hd];exact q
       |some d =>
        simp only[cB,Ja,beq_iff_eq,decide_eq_true_eq]at hd;rw[hd.1];exact q.put he hd.2 (.a8 _ [] .nil) (.lU fun _ _ _ h=>by simp at h)
     ·cases he
    ·cases he
   ·cases he
  ·cases c
 ·cases c
def K3(P:Program)(N:Nat)(o:Oper)(ks:List Nat)(d:Nat)(m k:aI)(zero:AV):Bool:=cB N o d &&
 (match o.op,zero with
  |.lookup t fx k' false,.list (some e) sz []=>ds fx m&&ds k' k&&jE P e sz &&
   (match P.underlying t with|some (.map ei hc)=>so P ei ks&&(match P.info? hc with|some i=>(match i.zero with|some (.slice none 0 0)=>true|_=>false)|none=>false)|_=>false)
  |_,_=>false)
variable {d:Nat}
theorem Rel.ajk(h:Rel P gl N g s a w)(ae:g.b4 id=some b)(A:jI P g w id b n es ks arr cX)
  (L:fb ks kk=true)(O:bb g kk lZ){e sz:Nat}{xs:List AV}{q:MapEntry}(Q:cX[j]?=some (kk,.list (some e) sz xs))(hm:arr.toList[j]?=some q)(hd:d<N)
  (ao:({ s with heap:=s.heap.set id (.map n (iJ es kk (.list none sz xs))) }:an).put d (.list (some e) sz xs)=some s') :
  ∃g',ef g w g' w/\Rel P gl N g' s' (a.put (some d) q.val) w:=by
 obtain⟨KV,R⟩:=A.once L O;have l0:dB kk kk=true:=jI.self L O;obtain⟨c1,c2,D,E⟩:=A.at_ j _ _ Q hm;have oK:=KT (kk:=kk) (x:=.list none sz xs) Q l0 (R cX A.perm);have F:=KS (kk:=kk) (x:=.list none sz xs) (R es (.refl _))
 -- the state without what is owned
 have S:∀g',GhLe g g'->(∀c,g.bD c≠.oc id q.born->g'.bD c=g.bD c)->(∀c,g'.bD c≠.none->g.bD c≠.none)->g'.γ=g.γ->g'.b4=g.b4 ->
   Rel P gl N g' { s with heap:=s.heap.set id (.map n (iJ es kk (.list none sz xs))) } a w:=by
  intro g' f B K4 G T;have hk:Kept g w g' w fun o=>o≠.oc id q.born:=fun c H=>⟨B c H,rfl,fun o=>by rw[G]⟩;refine⟨h.sorted,h.size,h.defers,fun t e he=>(h.env t e he).kept f hk (by simp) (by simp) (by simp),fun fH bA l=>?_,fun b off v ar=>h.ff b off v (by rw[<-G];exact ar),fun c H=>h.own c (K4 c H),fun n x ah=>by rw[G];exact h.gz n x ah,fun i b ak=>by rw[T]at ak;simpa using h.fE i b ak⟩;simp only at l;rw[aHV]at l;split at l
  ·rename_i r;subst r;split at l
   ·simp at l;subst l;refine⟨b,by rw[T];exact ae,arr,A.lu,by rw[B b (by rw[A.own];simp)];exact A.own,⟨cX.set j (kk,.list none sz xs),by rw[oK,F];exact A.perm.map _,by simp[A.len],fun i r m he u=>?_⟩,A.born,A.lt,?_,ks,?_⟩
    ·rw[aHV]at he;split at he
     ·rename_i J;subst J;split at he
      ·simp at he;subst he;rw[hm]at u;simp at u;subst u;exact⟨c1.mono f,c2,(D.aW).mono f,cP.gb (cP.none _ _)⟩
      ·cases he
     ·rename_i J;obtain⟨cY,c4,fc,eU⟩:=A.at_ i r m he u;refine⟨cY.mono f,c4,fc.mono f,eU.kept f hk ?_⟩;have cc:m.born≠q.born:=by
       have U:=(I9.1 u).1;have V:=(I9.1 hm).1;have W:=(I9.1 u).2;have X:=(I9.1 hm).2;rcases Nat.lt_or_gt_of_ne J with K|K
       ·have:=TH.1 A.born j i V U K;rw[W,X]at this;omega
       ·have:=TH.1 A.born i j U V K;rw[W,X]at this;omega
      simp[cc]
    ·have KY:(es.map (oO kk (.list none sz xs))).map (·.1)=es.map (·.1):=by
      rw[List.map_map];refine aHW fun e _=>?_;simp only[Function.comp,oO];split<;>rfl
     have p:(es.map (·.1)).Pairwise fun x y=>dB x y=false:=aB5.2 A.uniq;rw[F];rw[<-KY]at p;exact aB5.1 p
    ·intro r Y;rw[F]at Y;obtain⟨aN,p,rfl⟩:=aB8.1 Y;have:=A.fit aN p;simp only[oO];split<;>exact this
   ·cases l
  ·rename_i cc;exact(h.heap fH bA l).kept f hk (by simp) (fun i=>by simp only[ne_eq,ey.oc.injEq,not_and];exact fun e=>absurd e.symm cc)
 cases C:q.val.ownBlock with
 |none =>
  have p:=S g ⟨fun _ _ _ h=>h,fun _ _ h=>h⟩ (fun _ _=>rfl) (fun _ h=>h) rfl rfl;exact⟨g,ef.refl _ _,p.put ao hd D (E.free C)⟩
 |some c =>
  obtain⟨i,z,vs,m1,m2,m3,m4,m5,m6,CE,m7,Z⟩:=E e sz xs rfl;let g':bo:={ g with bD:=fun k=>if k=c then .var d else g.bD k }
  have f:GhLe g g':=⟨fun _ _ _ h=>h,fun _ _ h=>h⟩;have B:∀k,g.bD k≠.oc id q.born->g'.bD k=g.bD k:=fun k hk=>by
   have:k≠c:=by rintro rfl;exact hk (Z k C).1
   simp[g',this]
  have p:=S g' f B (fun k hk=>by
   by_cases r:k=c
   ·subst r;rw[(Z k C).1];simp
   ·simpa[g',r]using hk) rfl rfl
  refine⟨g',⟨f,fun k hk=>⟨by rw[B k (by rw[hk];simp)];exact hk,rfl,fun _=>rfl⟩,fM _,rfl,rfl⟩,p.put ao hd (D.mono f) (E.pass c C)⟩
theorem ajl{zero:AV}(h:Rel P gl N g s a w)(u:K3 P N o ks d m k zero=true)(he:aH gl s (.h8 ks d m k zero)=some s'):dR P gl N o g a w s':=by
 simp only[K3,Ja]at u;obtain⟨hd,c⟩:=u;split at c
 ·rename_i t U V W X aA;simp only[Ja]at c;obtain⟨⟨⟨hm,hk⟩,D⟩,c⟩:=c;split at c
  ·rename_i ei hc v;simp only[Ja]at c;obtain⟨E,f⟩:=c;split at f
   ·rename_i i ak;split at f
    ·rename_i F;simp only[cB,Ja,beq_iff_eq,decide_eq_true_eq]at hd;simp only[aH]at he;split at he
     ·rename_i id kk G H;split at he
      ·rename_i Y es J;split at he
       ·rename_i l;simp only[Ja]at l;obtain⟨b,y,K⟩:=h.heap _ _ J;obtain⟨arr,cX,A⟩:=K.at l.2;obtain⟨Z,p,z⟩:=(c9 h hm G).uI;rw[y]at p;simp at p;subst p;have B:=c9 h hk H;obtain⟨C,L⟩:=A.find E l.1 B;rcases L with⟨q,r,_⟩|⟨j,O,x,q,r,f3,Q,R,f6⟩
        ·rw[r]at he;refine⟨.slice none 0 0,w,g,.inl ?_,ef.refl _ _,?_⟩
         ·simp only[execOp,aA,z,Sem.run_bind,Sc v A.lu C q ak F,Result.andThen_ok,Sem.run_pure,ae0,if_false]
         ·rw[hd.1];exact h.put he hd.2 (.own _ _ _ _ (.jD _ _ _ (by simp))) (Cq D _ _ _)
        ·rw[R]at he;split at he
         ·rename_i e sz xs ah;simp at ah;subst ah;obtain⟨g',S,T⟩:=h.ajk y A l.1 B Q r hd.2 he;refine⟨O.val,w,g',.inl ?_,S,?_⟩
          ·simp only[execOp,aA,z,Sem.run_bind,Sb v A.lu C q,Result.andThen_ok,Sem.run_pure,ae0,if_false]
          ·rw[hd.1];exact T
         ·cases he
         ·rename_i ah;simp at ah
       ·cases he
      ·cases he
     ·cases he
    ·cases f
   ·cases f
  ·cases c
 ·cases c
end
end AM
