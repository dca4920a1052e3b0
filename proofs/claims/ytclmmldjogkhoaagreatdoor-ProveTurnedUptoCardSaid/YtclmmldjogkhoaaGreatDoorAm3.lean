/- An abstract machine, and what of the given program it does, part 4. Conditions: none. -/
import Derived.Test.YtclmmldjogkhoaaGreatDoorAm2
import Derived.Laws.CopyRow
set_option linter.unusedVariables false
namespace AM
open Bool renaming and_eq_true -> I9
open List renaming getElem?_set -> Ja,mem_of_getElem? -> LW,getElem?_set_self -> TH,getElem?_eq_some_iff -> fM,length_map -> aeZ,getElem?_eq_getElem -> ae0,length_cons -> aB5
open Go
section
variable {P:Program}{gl:cp}{N:Nat}{g g':bo}{s s':an}{a:Act}{w w':World}{o:Oper}
variable {b off:Nat}{v:Value}
theorem Ag(h:w.cell? ⟨b,off,none⟩=some v):b<w.heap.size:=by
 unfold World.cell? at h;cases ae:w.heap[b]? with
 |none=>simp[ae]at h|some x=>exact(Array.getElem?_eq_some_iff.1 ae).1
theorem RM(x:Obj)(h:w.cell? ⟨b,off,none⟩=some v):(w.alloc x).cell? ⟨b,off,none⟩=some v:=by
 have c:=Ag h;unfold World.cell? at h ⊢;rw[heap_alloc_old w x (h:=c)];exact h
theorem nm(w:World)(x:Obj):(w.alloc x).heap.size=w.heap.size+1:=by show(w.heap.push x).size=_;simp
def bo.iO(g:bo)(b:Nat)(ow:ey):bo:={ g with bD:=fun k=>if k=b then ow else g.bD k }
theorem Rel.uP(h:Rel P gl N g s a w)(off:Nat):g.γ w.heap.size off=none:=by
 cases c:g.γ w.heap.size off with
 |none=>rfl|some v=>have:=Ag (h.ff _ _ _ c);omega
theorem Rel.CA(h:Rel P gl N g s a w):g.bD w.heap.size=.none:=by
 cases c:g.bD w.heap.size<;>first|rfl|(have:=h.own w.heap.size (by rw[c];simp);omega)
theorem Rel.alloc(h:Rel P gl N g s a w)(x:Obj)(ow:ey) :
  ef g w (g.iO w.heap.size ow) (w.alloc x)/\Rel P gl N (g.iO w.heap.size ow) s a (w.alloc x):=by
 have c:GhLe g (g.iO w.heap.size ow):=⟨fun _ _ _ h=>h,fun _ _ h=>h⟩;have cc:∀b,g.bD b≠.none->b≠w.heap.size:=fun b ae e=>by subst e;exact ae h.CA
 have d:∀b,g.bD b≠.none->(g.iO w.heap.size ow).bD b=g.bD b/\(w.alloc x).heap[b]?=w.heap[b]?/\∀o,(g.iO w.heap.size ow).γ b o=g.γ b o:=fun b ae =>
  ⟨by simp[bo.iO,cc b ae],heap_alloc_old w x (h:=h.own b ae),fun _=>rfl⟩
 refine⟨⟨c,fun b ae=>?_,by rw[nm];omega,rfl,rfl⟩,h.step .none (kH.none s) c (fun b ae=>d b ae.1) (fun b off v f=>RM x (h.ff b off v f)) (fun b ae=>?_) h.fE⟩
 ·grind
 ·by_cases e:b=w.heap.size
  ·rw[nm];omega
  ·simp[bo.iO,e]at ae;have:=h.own b ae;rw[nm];omega
variable {cs:List AV}{ws:List Value}
theorem iK.new{ow:ey}{oc:Nat->ey}{ty:TypeId}(f:∀off,g.γ w.heap.size off=none)(d:cr g cs ws)(j:∀v∈ws,v.oneCell'=true)
  (k:∀c∈cs,cP c):iK P (g.iO w.heap.size ow) (w.alloc (.cells ws.toArray ty)) w.heap.size ow oc cs:=by
 refine⟨ws.toArray,ty,heap_alloc_new w _,by simp[d.get.1],by simp[bo.iO],f,fun i c ak=>?_⟩;obtain⟨v,e,l⟩:=d.get.2 i c ak;exact⟨v,by simpa using e,j v (LW e),l.mono (⟨fun _ _ _ h=>h,fun _ _ h=>h⟩:GhLe g (g.iO w.heap.size ow)),(k c (LW ak)).gb⟩
def yh(P:Program)(e:TypeId)(z:List AV):Bool :=
 match P.info? e with
 |some i=>(match i.zero with|some v=>v.cells.size==z.length&&(v.cells.toList.zip z).all fun(v,x)=>z6 v x|none=>false)|none=>false
variable {e:TypeId}{z:List AV}
theorem Ah(h:yh P e z=true):∃i v,P.info? e=some i/\i.zero=some v/\cr g z v.cells.toList/\(∀u∈v.cells.toList,u.oneCell'=true)/\∀c∈z,cP c:=by
 unfold yh at h;split at h
 ·rename_i i ak;split at h
  ·rename_i v p;simp only[I9,beq_iff_eq]at h;obtain⟨n,U⟩:=h;have ao:∀(k:Nat)u c,v.cells.toList[k]?=some u->z[k]?=some c->df g.γ c u/\u.oneCell'=true:=fun k u c d f=>JH (JG (by simpa using n) U k u c d f);refine⟨i,v,ak,p,.FR (by simpa using n) fun k c u f d=>.pure _ _ (ao k u c d f).1,fun u d=>?_,fun c f=>?_⟩
   ·obtain⟨k,hk,j⟩:=List.getElem_of_mem d;have l:k<z.length:=by grind
    exact(ao k u z[k] (by rw[ae0 hk,j]) (by simp[l])).2
   ·obtain⟨k,hk,m⟩:=List.getElem_of_mem f;have l:k<v.cells.toList.length:=by simp;omega
    have:=(ao k v.cells.toList[k] c (ae0 l) (by rw[ae0 hk,m])).1;intro e sz xs q;subst q;cases this
  ·cases h
 ·cases h
def CB(P:Program)(N:Nat)(o:Oper)(d:Nat)(z:List AV):Bool:=cB N o d&&(match o.op with|.alloc e=>yh P e z|_=>false)
theorem FY{i:TypeInfo}(ak:P.info? e=some i)(c:i.zero=some v):(Instr.alloc e true (.tuple #[])).run P w=.ok (ptrTo w.heap.size 0) (w.alloc (.cells v.cells e)):=by
 simp[Instr.alloc,zeroValue,typeInfo,ak,c,newVar,newRow,newObj,Sem.run,ptrTo]
variable {d:Nat}
theorem aij(h:Rel P gl N g s a w)(f:CB P N o d z=true)(he:aH gl s (.alloc d z)=some s'):dR P gl N o g a w s':=by
 simp only[CB,I9]at f;obtain⟨hd,c⟩:=f;split at c
 ·rename_i e aA;obtain⟨i,v,j,k,l,m,n⟩:=Ah (g:=g) c;simp only[aH]at he;simp only[cB,I9,beq_iff_eq,decide_eq_true_eq]at hd;obtain⟨p,q⟩:=h.alloc (.cells v.cells e) (.ee d);refine⟨ptrTo w.heap.size 0,w.alloc (.cells v.cells e),g.iO w.heap.size (.ee d),.inl ?_,p,?_⟩
  ·simp only[execOp,aA,Sem.run_bind,FY j k,Result.andThen_ok,Sem.run_pure]
  ·rw[hd.1];refine q.lh he hd.2 ?_;have:=iK.new (P:=P) (ow:=.ee d) (oc:=.eJ d) (ty:=e) h.uP l m n;simpa using this
 ·cases c
def wI(N:Nat)(o:Oper)(d:Nat)(x:aI):Bool:=cB N o d&&(match o.op with|.box _ bx=>ds bx x|_=>false)
theorem FZ(e:TypeId)(v:Value):(Instr.box e v).run P w=.ok (ptrTo w.heap.size 0) (w.alloc (.cells v.cells e)):=by
 simp[Instr.box,newVar,newRow,newObj,Sem.run,ptrTo]
theorem tl :∀c∈cs.map AV.aW,cP c:=fun c f=>by
 obtain⟨x,_,rfl⟩:=List.mem_map.1 f;exact cP.aW x
variable {x:aI}
theorem aik(h:Rel P gl N g s a w)(f:wI N o d x=true)(he:aH gl s (.box d x)=some s'):dR P gl N o g a w s':=by
 simp only[wI,I9]at f;obtain⟨hd,c⟩:=f;split at c
 ·rename_i e i aA;obtain⟨u,j,U⟩:=bind_some he;split at U
  ·rename_i k;simp only[cB,I9,beq_iff_eq,decide_eq_true_eq]at hd;obtain⟨l,m⟩:=(c9 h c j).cells k;obtain⟨n,p⟩:=h.alloc (.cells (a.eval i).cells e) (.ee d);refine⟨ptrTo w.heap.size 0,w.alloc (.cells (a.eval i).cells e),g.iO w.heap.size (.ee d),.inl ?_,n,?_⟩
   ·simp only[execOp,aA,Sem.run_bind,FZ,Result.andThen_ok,Sem.run_pure]
   ·rw[hd.1];refine p.lh U hd.2 ?_;have:=iK.new (P:=P) (ow:=.ee d) (oc:=.eJ d) (ty:=e) h.uP l.aW m tl;simpa using this
  ·cases U
 ·cases c
theorem Rel.ju(h:Rel P gl N g s a w)(ty:TypeId)(m:cr g cs ws)(n:∀v∈ws,v.oneCell'=true)(p:∀c∈cs,cP c) :
  ∃g',ef g w g' (w.alloc (.cells ws.toArray ty))/\Rel P gl N g' { s with heap:=s.heap++[ax.cells cs] } a (w.alloc (.cells ws.toArray ty))/\g'.b4 s.heap.length=some w.heap.size:=by
 obtain⟨q,i⟩:=h.alloc (.cells ws.toArray ty) (.bA s.heap.length);have ae:=iK.new (P:=P) (ow:=.bA s.heap.length) (oc:=.oc s.heap.length) (ty:=ty) h.uP m n p;let j:bo:={ g.iO w.heap.size (.bA s.heap.length)with b4:=fun id=>if id=s.heap.length then some w.heap.size else g.b4 id }
 have f:GhLe (g.iO w.heap.size (.bA s.heap.length)) j:=⟨fun _ _ _ h=>h,fun id b k=>by
  have:=h.fE id b k;simp[j,show id≠s.heap.length by omega];exact k⟩
 have hk:∀K,Kept (g.iO w.heap.size (.bA s.heap.length)) (w.alloc (.cells ws.toArray ty)) j (w.alloc (.cells ws.toArray ty)) K:=fun K b _=>⟨rfl,rfl,fun _=>rfl⟩;refine⟨j,q.trans ⟨f,fun b ae=>⟨ae,rfl,fun _=>rfl⟩,Nat.le_refl _,rfl,rfl⟩,?_,by simp[j]⟩;refine⟨i.sorted,i.size,i.defers,fun t e he=>(i.env t e he).kept f (hk fun _=>True) trivial trivial (fun _=>trivial),fun id bA l=>?_,i.ff,i.own,i.gz,fun id b k=>?_⟩
 ·simp only at l;rcases Nat.lt_trichotomy id s.heap.length with r|rfl|u
  ·rw[List.getElem?_append_left r]at l;exact(i.heap id bA l).kept f (hk fun _=>True) (fun _=>trivial) (fun _=>trivial)
  ·simp at l;subst l;exact⟨w.heap.size,by simp[j],ae.kept f (hk fun _=>True) trivial (fun _=>trivial)⟩
  ·grind
 ·simp only[List.length_append,List.length_singleton];by_cases e:id=s.heap.length
  ·omega
  ·simp[j,e]at k;have:=h.fE id b k;omega
def Kc(P:Program)(N:Nat)(o:Oper)(d:Nat)(z:List AV):Bool:=CB P N o d z
theorem ail(h:Rel P gl N g s a w)(f:Kc P N o d z=true)(he:aH gl s (.ju d z)=some s'):dR P gl N o g a w s':=by
 simp only[Kc,CB,I9]at f;obtain⟨hd,c⟩:=f;split at c
 ·rename_i e aA;obtain⟨i,v,j,k,l,m,n⟩:=Ah (g:=g) c;simp only[aH]at he;simp only[cB,I9,beq_iff_eq,decide_eq_true_eq]at hd;obtain⟨g',p,q,r⟩:=h.ju e l m n;refine⟨ptrTo w.heap.size 0,w.alloc (.cells v.cells e),g',.inl ?_,by simpa using p,?_⟩
  ·simp only[execOp,aA,Sem.run_bind,FY j k,Result.andThen_ok,Sem.run_pure]
  ·rw[hd.1];have:=q.put he hd.2 (.ptr _ 0 _ r) (uL _ _).gb;simpa[ptrTo]using this
 ·cases c
def Kd(N:Nat)(o:Oper)(d:Nat)(x:aI):Bool:=wI N o d x
theorem aim(h:Rel P gl N g s a w)(f:Kd N o d x=true)(he:aH gl s (.r4 d x)=some s'):dR P gl N o g a w s':=by
 simp only[Kd,wI,I9]at f;obtain⟨hd,c⟩:=f;split at c
 ·rename_i e i aA;obtain⟨u,j,U⟩:=bind_some he;split at U
  ·rename_i k;simp only[cB,I9,beq_iff_eq,decide_eq_true_eq]at hd;obtain⟨l,m⟩:=(c9 h c j).cells k;obtain⟨g',n,p,q⟩:=h.ju e l.aW m tl;refine⟨ptrTo w.heap.size 0,w.alloc (.cells (a.eval i).cells e),g',.inl ?_,by simpa using n,?_⟩
   ·simp only[execOp,aA,Sem.run_bind,FZ,Result.andThen_ok,Sem.run_pure]
   ·rw[hd.1];have:=p.put U hd.2 (.ptr _ 0 _ q) (uL _ _).gb;simpa[ptrTo]using this
  ·cases U
 ·cases c
end
section
variable {P:Program}{gl:cp}{N:Nat}{g g':bo}{s s':an}{a:Act}{w w':World}{o:Oper}
theorem CC:∀(vs cs:List AV)(off:Nat),off+vs.length<=cs.length->setCells cs off vs=cs.take off++vs++cs.drop (off+vs.length)
 |[],cs,off,_=>by simp[setCells]|v::r,cs,off,h=>by
  simp only[aB5]at h;rw[setCells,CC r (cs.set off v) (off+1) (by simp;omega)];have b:off<cs.length:=by omega
  apply List.ext_getElem?;intro i;simp only[List.getElem?_append,List.length_append,List.length_take,List.length_set,aB5,List.getElem?_take,Ja,List.getElem?_drop];rcases Nat.lt_trichotomy i off with ak|rfl|ak
  ·grind
  ·grind
  ·grind
theorem RN{α:Type}(l mid:List α)(off i:Nat)(h:off+mid.length<=l.length):(l.take off++mid++l.drop (off+mid.length))[i]?=if i<off then l[i]? else if i<off+mid.length then mid[i-off]? else l[i]?:=by grind
variable {b:Nat}{vs:List AV}{us:List Value}{off:Nat}
theorem iK.write{ow:ey}{oc:Nat->ey}{cs:List AV}(h:iK P g w b ow oc cs)(j:cr g vs us)(n:∀v∈us,v.oneCell'=true)
  (ae:off+vs.length<=cs.length)(aA:∀(i:Nat)c u,vs[i]?=some c->us[i]?=some u->e6 P g w (oc (off+i)) c u)(cc:∀i,oc i≠ow) :
  ∃arr ty,w.heap[b]?=some (.cells arr ty (0,0))/\off+us.length<=arr.size /\
   iK P g (w.setRow b (arr.toList.take off++us++arr.toList.drop (off+us.length)).toArray) b ow oc (setCells cs off vs):=by
 obtain⟨arr,ty,l,B,m,p,C⟩:=h;have q:=j.get.1;have r:off+us.length<=arr.toList.length:=by simp;omega
 refine⟨arr,ty,l,by omega,_,ty,setRow_heap w b arr _ ty (0,0) l,?_,m,p,fun i c d=>?_⟩
 ·rw[CC _ _ _ ae];simp;omega
 ·rw[CC _ _ _ ae,RN _ _ _ _ ae,<-q]at d;have t:∀{i:Nat}{c:AV}{v:Value},e6 P g w (oc i) c v->e6 P g (w.setRow b (arr.toList.take off++us++arr.toList.drop (off+us.length)).toArray) (oc i) c v:=by
   intro i c v x;refine x.kept (K:=fun o=>o≠ow) ⟨fun _ _ _ h=>h,fun _ _ h=>h⟩ (fun k hk=>⟨rfl,?_,fun _=>rfl⟩) (cc i);exact setRow_other w b k _ (fun e=>hk (by rw[e,m]))
  rw[List.getElem?_toArray,RN _ _ _ _ r];by_cases y:i<off
  ·grind
  ·by_cases z:i<off+us.length
   ·simp only[y,z,if_true,if_false]at d ⊢;obtain⟨u,f,A⟩:=j.get.2 _ _ d;refine⟨u,f,n u (LW f),A,?_⟩;have:=t (aA _ _ _ d f);rwa[show off+(i-off)=i by omega]at this
   ·grind
theorem Ke{arr:Array Value}(ae:g.bD b≠.outer):ef g w g (w.setRow b arr) :=
 ⟨⟨fun _ _ _ h=>h,fun _ _ h=>h⟩,fun k hk=>⟨hk,setRow_other w b k _ (fun e=>ae (by rw[<-e,hk])),fun _=>rfl⟩,by simp,rfl,rfl⟩
variable {v:Value}{p:lj}
theorem Kf(h:Rel P gl N g s a w)(ao:Ad P g s a w v p)(F:cr g vs us)(r:∀v∈us,v.oneCell'=true)
  (aA:∀(i:Nat)c u,vs[i]?=some c->us[i]?=some u->match p with|.ee t off=>e6 P g w (.eJ t (off+i)) c u|.ao id off=>e6 P g w (.oc id (off+i)) c u|.jf _=>False)
  (f:bz s vs p=some s'):∃b off w',v=ptrTo b off/\(storeCells ⟨b,off,none⟩ us).run P w=.ok () w'/\ef g w g w'/\Rel P gl N g s' a w':=by
 have G:∀(b:Nat)(arr:Array Value),(∀off,g.γ b off=none)->∀k off v,g.γ k off=some v->(w.setRow b arr).cell? ⟨k,off,none⟩=some v:=by
  intro b arr ae k off v hk;rw[cell_setRow_other w b arr _ (fun e=>by simp only at e;rw[e,ae]at hk;cases hk)];exact h.ff _ _ _ hk
 cases p with
 |ee t off =>
  obtain⟨b,cs,m,E,S,Q⟩:=ao;simp only[bz,m]at f;split at f
  ·rename_i ae;simp at f;subst f;have y:=Q;obtain⟨arr,z,j,A,B⟩:=Q.write F r ae aA (fun i=>by simp);obtain⟨_,_,_,_,l,C,_⟩:=y;have n:=run_storeCells_at P b off z us 0 arr w j (by simpa using A) r;simp only[Nat.add_zero]at n;refine⟨b,off,_,S,n,Ke (by rw[l];simp),Env.dQ.ins h.sorted t _,h.size,h.defers,fun u e he=>?_,fun id bA d=>?_,G b _ C,fun k hk=>by simpa using h.own k hk,h.gz,h.fE⟩
   ·simp only at he ⊢;rw[Env.hp]at he;split at he
    ·rename_i H;subst H;simp at he;subst he;exact⟨b,E,B⟩
    ·rename_i H;have hk:Kept g w g (w.setRow b (arr.toList.take off++us++arr.toList.drop (off+us.length)).toArray) fun o=>o≠.ee t :=
      fun k hk=>⟨rfl,setRow_other w b k _ (fun e=>hk (by rw[e,l])),fun _=>rfl⟩
     have J:=(h.env u e he).kept ⟨fun _ _ _ h=>h,fun _ _ h=>h⟩ hk (by simp) (by simp[H]) (by simp);cases e with
     |v x=>exact J|b cs=>exact J|a T ql =>
      obtain⟨⟨U,V⟩,W⟩:=J;refine⟨?_,W⟩;rw[Env.hp];by_cases e:T=t
      ·simp[e]
      ·simp[e,V]
   ·have hk:Kept g w g (w.setRow b (arr.toList.take off++us++arr.toList.drop (off+us.length)).toArray) fun o=>o≠.ee t :=
     fun k hk=>⟨rfl,setRow_other w b k _ (fun e=>hk (by rw[e,l])),fun _=>rfl⟩
    exact(h.heap id bA d).kept ⟨fun _ _ _ h=>h,fun _ _ h=>h⟩ hk (by simp) (by simp)
  ·cases f
 |ao id off =>
  obtain⟨b,m,E⟩:=ao;simp only[bz]at f;split at f
  ·rename_i cs K;obtain⟨X,q,D⟩:=h.heap _ _ K;rw[m]at q;simp at q;subst q;split at f
   ·rename_i ae;simp at f;subst f;have y:=D;obtain⟨arr,z,j,A,B⟩:=D.write F r ae aA (fun i=>by simp);obtain⟨_,_,_,_,l,C,_⟩:=y;have n:=run_storeCells_at P b off z us 0 arr w j (by simpa using A) r;simp only[Nat.add_zero]at n;have hk:Kept g w g (w.setRow b (arr.toList.take off++us++arr.toList.drop (off+us.length)).toArray) fun o=>o≠.bA id :=
     fun k hk=>⟨rfl,setRow_other w b k _ (fun e=>hk (by rw[e,l])),fun _=>rfl⟩
    refine⟨b,off,_,E,n,Ke (by rw[l];simp),h.sorted,h.size,h.defers,
     fun u e he=>(h.env u e he).kept ⟨fun _ _ _ h=>h,fun _ _ h=>h⟩ hk (by simp) (by simp) (by simp),fun L bA d=>?_,G b _ C,fun k hk=>by simpa using h.own k hk,h.gz,
     fun i b ak=>by simpa using h.fE i b ak⟩
    simp only at d;rw[Ja]at d;split at d
    ·rename_i e;subst e;split at d
     ·simp at d;subst d;exact⟨b,m,B⟩
     ·cases d
    ·rename_i e;exact(h.heap L bA d).beside ⟨fun _ _ _ h=>h,fun _ _ h=>h⟩ hk (fun h=>e h.symm) m (by simp[j]) (by simp) (by simp)
   ·cases f
  ·rename_i Y cs K;obtain⟨X,Z,q,Kg,D,⟨O,R,m4⟩,m5⟩:=h.heap _ _ K;rw[m]at q;simp at q;subst q;split at f
   ·rename_i ae;simp at f;subst f;have y:=D;obtain⟨arr,z,j,A,B⟩:=D.write F r ae aA (fun i=>by simp);obtain⟨_,_,_,_,l,C,_⟩:=y;have n:=run_storeCells_at P b off z us 0 arr w j (by simpa using A) r;simp only[Nat.add_zero]at n;have hk:Kept g w g (w.setRow b (arr.toList.take off++us++arr.toList.drop (off+us.length)).toArray) fun o=>o≠.bA id :=
     fun k hk=>⟨rfl,setRow_other w b k _ (fun e=>hk (by rw[e,l])),fun _=>rfl⟩
    refine⟨b,off,_,E,n,Ke (by rw[l];simp),h.sorted,h.size,h.defers,
     fun u e he=>(h.env u e he).kept ⟨fun _ _ _ h=>h,fun _ _ h=>h⟩ hk (by simp) (by simp) (by simp),fun L bA d=>?_,G b _ C,fun k hk=>by simpa using h.own k hk,h.gz,
     fun i b ak=>by simpa using h.fE i b ak⟩
    simp only at d;rw[Ja]at d;split at d
    ·rename_i e;subst e;split at d
     ·simp at d;subst d;rw[R]at j;simp at j;obtain⟨rfl,rfl⟩:=j;refine⟨b,Z,m,Kg,B,⟨_,setRow_heap w b O _ Y (0,0) R,?_⟩,m5⟩;rw[<-m4];simp;omega
     ·cases d
    ·rename_i e;exact(h.heap L bA d).beside ⟨fun _ _ _ h=>h,fun _ _ h=>h⟩ hk (fun h=>e h.symm) m (by simp[j]) (by simp) (by simp)
   ·cases f
  ·cases f
 |jf cs=>simp[bz]at f
def uQ(P:Program)(o:Oper)(n:Nat)(x v:aI):Bool:=o.dst==none &&
 (match o.op with|.store t bx cQ=>ds bx x&&ds cQ v&&(match P.info? t with|some i=>i.size==n|none=>false)|_=>false)
theorem Kh{t:TypeId}{i:TypeInfo}{u:Value}(ak:P.info? t=some i)(c:u.cells.size=i.size)(d:(storeCells ⟨b,off,none⟩ u.cells.toList).run P w=.ok () w') :
  (Instr.storeAt t (ptrTo b off) u).run P w=.ok () w':=by
 simp[Instr.storeAt,Instr.sureAddr,ptrTo,storeVar,Go.sizeOf,typeInfo,ak,c,d]
variable {x:aI}
theorem RO{n:Nat}{v:aI}(h:Rel P gl N g s a w)(d:uQ P o n x v=true)(he:aH gl s (.st n x v)=some s'):dR P gl N o g a w s':=by
 simp only[uQ,I9,beq_iff_eq]at d;obtain⟨hd,e⟩:=d;split at e
 ·rename_i t D j aA;simp only[I9]at e;obtain⟨⟨ah,k⟩,hk⟩:=e;split at hk
  ·rename_i i ak;simp at hk;obtain⟨p,l,he⟩:=bind_some he;obtain⟨u,m,he⟩:=bind_some he;split at he
   ·rename_i ae;obtain⟨E,q⟩:=ae;obtain⟨f,r⟩:=(c9 h k m).cells q;obtain⟨b,off,w',y,z,A,B⟩:=Kf h (q9 h ah l) f.aW r (fun i c u d F=>by
     have:=tl c (LW d);cases p with
     |ee t off=>exact this.gb|ao id off=>exact this.gb|jf cs=>simp[bz]at he) he
    have C:(a.eval j).cells.size=i.size:=by have:=f.get.1;simp at this;omega
    refine⟨undef,w',g,.inr ⟨?_,rfl⟩,A,?_⟩
    ·simp only[execOp,aA,Sem.run_bind,y,Kh ak C z,Result.andThen_ok,Sem.run_pure]
    ·rw[hd];exact B
   ·cases he
  ·cases hk
 ·cases e
theorem Ad.mono(h:Ad P g s a w v p)(i:Rel P gl N g' s' a w')(f:GhLe g g')(he:∀t cs,s.env.get t=some (.b cs)->s'.env.get t=some (.b cs)):Ad P g' s' a w' v p:=by
 cases p with
 |ee t off =>
  obtain⟨b,cs,c,d,j,l⟩:=h;obtain⟨m,e,k⟩:=i.env _ _ (he _ _ c);rw[d]at e;simp[ptrTo]at e;subst e;exact⟨b,cs,he _ _ c,d,j,k⟩
 |ao id off=>obtain⟨b,c,d⟩:=h;exact⟨b,f.b4 _ _ c,d⟩
 |jf cs=>obtain⟨b,off,c,d⟩:=h;exact⟨b,off,c,d.mono f.γ⟩
theorem aio{v:Nat}(h:Rel P gl N g s a w)(d:uQ P o 1 x (.t v)=true)(he:aH gl s (.hP x v)=some s'):dR P gl N o g a w s':=by
 simp only[uQ,I9,beq_iff_eq]at d;obtain⟨hd,k⟩:=d;split at k
 ·rename_i t bx G aA;simp only[I9]at k;obtain⟨⟨ah,B⟩,hk⟩:=k;have H:G=.tmp v:=by unfold ds at B;split at B<;>simp_all
  subst H;split at hk
  ·rename_i i ak;simp at hk;obtain⟨p,J,he⟩:=bind_some he;split at he
   ·rename_i e sz xs m;obtain⟨s1,n,he⟩:=bind_some he;obtain⟨K,C⟩:=h.strip m;rw[K]at n;simp at n;subst n;obtain⟨u,L,D,q⟩:=h.env _ _ m;have O:kH { s with env:=s.env.ins v (.v (.list none sz xs)) } (.var v) :=
     ⟨fun t z f r=>by simp at f;subst f;simp only[Env.hp]at r;simp at r;subst r;exact cP.none _ _,by simp,by simp,by simp,by simp,by simp⟩
    -- the owner that the address names
    have Q:∀y:ey,y≠.none->∃g',ef g w g' w/\Rel P gl N g' { s with env:=s.env.ins v (.v (.list none sz xs)) } a w/\e6 P g' w y (.list (some e) sz xs) u:=by
     intro y _;cases ae:u.ownBlock with
     |none=>exact⟨g,ef.refl _ _,C,q.free ae⟩|some b =>
      obtain⟨nX,z,vs,m1,m2,m3,m4,m5,m6,CE,m7,R⟩:=q e sz xs rfl;obtain⟨j,l⟩:=C.pass (.var v) y O (by simp) (R b ae).1 (by simp);exact⟨_,j,l,q.pass b ae⟩
    have A:u.cells.size=1/\u.cells.toList=[u]/\u.oneCell'=true:=by
     obtain⟨base,cap,rfl,_⟩:=D.yd;exact⟨rfl,rfl,rfl⟩
    have S:∀t cs,s.env.get t=some (.b cs)->({ s with env:=s.env.ins v (.v (.list none sz xs)) }:an).env.get t=some (.b cs):=by
     intro t cs f;simp only[Env.hp];have:t≠v:=by rintro rfl;rw[m]at f;simp at f
     simp[this,f]
    let y:ey:=match p with|.ee t off=>.eJ t off|.ao id off=>.oc id off|.jf _=>.Co
    obtain⟨g',j,l,E⟩:=Q y (by cases p<;>simp[y]);have T:=(q9 h ah J).mono l j.toGhLe S;have U:cr g' [.list (some e) sz xs] [u]:=.cons _ _ _ _ (D.mono j.toGhLe) .nil;obtain⟨b,off,w',V,W,X,Y⟩:=Kf l T U (by simp[A.2.2]) (fun i c kq d F=>by
     cases i with
     |zero =>
      simp at d F;subst d F;cases p with
      |ee t off=>simpa[y]using E|ao id off=>simpa[y]using E|jf cs=>simp[bz]at he
     |succ i=>simp at d) he
    refine⟨undef,w',g',.inr ⟨?_,rfl⟩,j.trans X,?_⟩
    ·have Z:a.eval (.tmp v)=u:=by simp[Act.eval,L]
     simp only[execOp,aA,Sem.run_bind,V,Z,Kh ak (by rw[A.1,hk]) (by rw[A.2.1];exact W),Result.andThen_ok,Sem.run_pure]
    ·rw[hd];exact Y
   ·cases he
  ·cases hk
 ·cases k
end
section
variable {P:Program}{gl:cp}{N:Nat}{g g':bo}{s s':an}{a:Act}{w w':World}{o:Oper}
variable {b:Nat}{cs:List AV}{off sz:Nat}
theorem iK.strip{ow:ey}{oc:Nat->ey}{e:Nat}{xs:List AV}(h:iK P g w b ow oc cs)(m:cs[off]?=some (.list (some e) sz xs)) :
  iK P g w b ow oc (cs.set off (.list none sz xs))/\∃v,w.cell? ⟨b,off,none⟩=some v/\bb g (.list (some e) sz xs) v/\e6 P g w (oc off) (.list (some e) sz xs) v:=by
 obtain⟨arr,d,f,n,p,q,j⟩:=h;obtain⟨v,k,r,l,t⟩:=j off _ m;refine⟨⟨arr,d,f,by simpa using n,p,q,fun i c ak=>?_⟩,v,by rw[cell_of_row w b off arr d (0,0) f];exact k,l,t⟩;rw[Ja]at ak;split at ak
 ·rename_i e;subst e;split at ak
  ·simp at ak;subst ak;exact⟨v,k,r,l.aW,(cP.none _ _).gb⟩
  ·cases ak
 ·exact j i c ak
variable {x:AV}
theorem Kj(e:(cs.drop off).take 1=[x]):cs[off]?=some x:=by
 have:((cs.drop off).take 1)[0]?=some x:=by rw[e];rfl
 simpa[List.getElem?_take,List.getElem?_drop]using this
def Kk(P:Program)(N:Nat)(o:Oper)(d:Nat)(x:aI)(e sz:Nat):Bool:=wE P N o d x 1 false&&jE P e sz
theorem aip{d:Nat}{x:aI}{e0 nT:Nat}(h:Rel P gl N g s a w)(j:Kk P N o d x e0 nT=true)(he:aH gl s (.iv d x e0 nT)=some s'):dR P gl N o g a w s':=by
 simp only[Kk,wE,I9]at j;obtain⟨⟨hd,V⟩,cn⟩:=j;split at V
 ·rename_i t bx aA;simp only[I9]at V;obtain⟨⟨ah,fC⟩,hk⟩:=V;have W:∀b off v,a.eval bx=ptrTo b off->w.cell? ⟨b,off,none⟩=some v->(execOp a.eval o).run P w=.ok (.value v) w:=by
   intro b off v Y Z;simp only[execOp,aA,Sem.run_bind,Y];split at hk
   ·simp at hk
   ·simp at hk
   ·rename_i oJ kL uK nj;rw[FU nj ⟨fun dm e=>kL dm e,fun n e b3=>uK n e b3⟩ Z];rfl
   ·cases hk
  have r:=hd;simp only[cB,I9,beq_iff_eq,decide_eq_true_eq]at r;simp only[aH]at he;obtain⟨p,h1,he⟩:=bind_some he;obtain⟨cs,U,he⟩:=bind_some he;split at he
  ·rename_i e sz xs;obtain⟨s1,l,aY⟩:=bind_some he;have F1:=q9 h ah h1;cases p with
   |ee u off =>
    obtain⟨b,f,C,X,bH,cO⟩:=F1;simp only[bC,C]at U;simp only[bz,C]at l;split at U
    ·rename_i ae;simp at U;rw[if_pos (by simpa using ae)]at l;simp at l;subst l;have A:=Kj U;obtain⟨J,v,D,K,E⟩:=cO.strip A;have B:setCells f off [.list none sz xs]=f.set off (.list none sz xs):=rfl;have O:Rel P gl N g { s with env:=s.env.ins u (.b (setCells f off [.list none sz xs])) } a w:=by
      refine⟨Env.dQ.ins h.sorted u _,h.size,h.defers,fun t y L=>?_,h.heap,h.ff,h.own,h.gz,h.fE⟩;simp only at L ⊢;rw[Env.hp]at L;split at L
      ·rename_i m;subst m;simp at L;subst L;exact⟨b,X,by rw[B];exact J⟩
      ·rename_i m;have dO:=h.env t y L;cases y with
       |v y=>exact dO|b cs=>exact dO|a kq ql =>
        obtain⟨⟨aGw,Q⟩,aw⟩:=dO;refine⟨?_,aw⟩;rw[Env.hp];by_cases e:kq=u
        ·simp[e]
        ·simp[e,Q]
     have R:kH { s with env:=s.env.ins u (.b (setCells f off [.list none sz xs])) } (.eJ u off):=by
      refine⟨by simp,fun t i cs c m k j=>?_,by simp,by simp,by simp,by simp⟩;simp at m;obtain⟨rfl,rfl⟩:=m;simp only[Env.hp]at k;simp at k;subst k;rw[B]at j;rw[TH (by have:=(fM.1 A).1;exact this)]at j;simp at j;subst j;exact cP.none _ _
     obtain⟨g',S,T⟩:=O.z8 R (by simp) (by simp) r.2 aY K E ⟨e,sz,xs,rfl⟩;exact⟨v,w,g',.inl (W b off v bH D),S,by rw[r.1];exact T⟩
    ·cases U
   |ao id off =>
    obtain⟨b,C,X⟩:=F1;simp only[bC]at U;split at U
    ·rename_i f F;obtain⟨bU,G,m2⟩:=h.heap _ _ F;rw[C]at G;simp at G;subst G;split at U
     ·rename_i ae;simp at U;simp only[bz,F]at l;rw[if_pos (by simpa using ae)]at l;simp at l;subst l;have A:=Kj U;obtain⟨J,v,D,K,E⟩:=m2.strip A;have B:setCells f off [.list none sz xs]=f.set off (.list none sz xs):=rfl;have sk:id<s.heap.length:=(fM.1 F).1;have O:Rel P gl N g { s with heap:=s.heap.set id (.cells (setCells f off [.list none sz xs])) } a w:=by
       refine⟨h.sorted,h.size,h.defers,h.env,fun H bA q=>?_,h.ff,h.own,h.gz,fun i b ak=>by simpa using h.fE i b ak⟩;simp only at q;rw[Ja]at q;split at q
       ·rename_i e;subst e;simp at q;subst q;exact⟨b,C,by rw[B];exact J⟩
       ·exact h.heap H bA q
      have R:kH { s with heap:=s.heap.set id (.cells (setCells f off [.list none sz xs])) } (.oc id off):=by
       refine⟨by simp,by simp,fun H i cs c m k j=>?_,fun H i n es m k=>?_,by simp,by simp⟩
       ·simp at m;obtain⟨rfl,rfl⟩:=m;simp only at k;rw[TH sk]at k;simp at k;subst k;rw[B]at j;rw[TH (by have:=(fM.1 A).1;exact this)]at j;simp at j;subst j;exact cP.none _ _
       ·grind
      obtain⟨g',S,T⟩:=O.z8 R (by simp) (by simp) r.2 aY K E ⟨e,sz,xs,rfl⟩;exact⟨v,w,g',.inl (W b off v X D),S,by rw[r.1];exact T⟩
     ·cases U
    ·rename_i aN f F;obtain⟨bU,kk,G,Kg,m2,m3⟩:=h.heap _ _ F;rw[C]at G;simp at G;subst G;split at U
     ·rename_i ae;simp at U;simp only[bz,F]at l;rw[if_pos (by simpa using ae)]at l;simp at l;subst l;have A:=Kj U;obtain⟨J,v,D,K,E⟩:=m2.strip A;have B:setCells f off [.list none sz xs]=f.set off (.list none sz xs):=rfl;have sk:id<s.heap.length:=(fM.1 F).1;have O:Rel P gl N g { s with heap:=s.heap.set id (.buf aN (setCells f off [.list none sz xs])) } a w:=by
       refine⟨h.sorted,h.size,h.defers,h.env,fun H bA q=>?_,h.ff,h.own,h.gz,fun i b ak=>by simpa using h.fE i b ak⟩;simp only at q;rw[Ja]at q;split at q
       ·rename_i e;subst e;simp at q;subst q;exact⟨b,kk,C,Kg,by rw[B];exact J,m3⟩
       ·exact h.heap H bA q
      have R:kH { s with heap:=s.heap.set id (.buf aN (setCells f off [.list none sz xs])) } (.oc id off):=by
       refine⟨by simp,by simp,fun H i cs c m k j=>?_,fun H i n es m k=>?_,by simp,by simp⟩
       ·simp at m;obtain⟨rfl,rfl⟩:=m;simp only at k;rw[TH sk]at k;simp at k;subst k;rw[B]at j;rw[TH (by have:=(fM.1 A).1;exact this)]at j;simp at j;subst j;exact cP.none _ _
       ·grind
      obtain⟨g',S,T⟩:=O.z8 R (by simp) (by simp) r.2 aY K E ⟨e,sz,xs,rfl⟩;exact⟨v,w,g',.inl (W b off v X D),S,by rw[r.1];exact T⟩
     ·cases U
    ·cases U
   |jf f=>simp[bz]at l
  ·rename_i z;obtain⟨b,off,Y,⟨ws,J,D,K,E⟩,er⟩:=RI h (q9 h ah h1) U;cases D with
   |cons _ _ u us Q uF =>
    cases uF;have Z:=E 0 u (by simp);have Q:=Q.tk;subst Q;refine⟨_,w,g,.inl (W b off _ Y (by simpa using Z)),.refl _ _,?_⟩;rw[r.1];exact h.put he r.2 (.own _ _ _ _ (.jD _ _ _ (by simp))) (Cq cn g w _)
  ·cases he
 ·cases V
variable {v:Value}
theorem bb.Kl(h:bb g x v)(ah:x.eb=true):df g.γ x v:=by
 cases h with
 |pure _ _ h=>exact h|own=>simp[AV.eb]at ah|ptr=>simp[AV.eb]at ah|map=>simp[AV.eb]at ah|bs=>simp[AV.eb]at ah|lb=>simp[AV.eb]at ah|fn=>simp[AV.eb]at ah|agg=>simp[AV.eb]at ah|a8=>simp[AV.eb]at ah
theorem cr.Km{ws:List Value}(h:cr g cs ws)(d:cs.all AV.eb=true)(f:∀v∈ws,v.oneCell'=true):fB g.γ cs ws:=by
 induction ws generalizing cs with
 |nil=>cases h;exact .nil|cons w ws ih=>cases h with
  |cons c cs _ _ e i =>
   simp only[List.all_cons,I9]at d;exact .cons _ _ _ _ (f w (by simp)) (e.Kl d.1) (ih i d.2 fun v e=>f v (by simp[e]))
theorem bb.Kn(h:bb g x v)(ah:x.pure=true):df g.γ x v:=by
 by_cases c:∃cs,x=.agg cs
 ·obtain⟨cs,rfl⟩:=c;obtain⟨ws,rfl,d,e⟩:=h.nW;exact .agg _ _ (d.Km (by simpa[AV.pure]using ah) e)
 ·refine h.Kl ?_;cases x<;>first|exact ah|exact absurd ⟨_,rfl⟩ c
def bo.lp(g:bo)(b:Nat)(arr:Array Value):bo:={ g with γ:=fun k off=>if k=b then arr[off]? else g.γ k off,bD:=fun k=>if k=b then .Co else g.bD k }
theorem Rel.Ko(h:Rel P gl N g s a w)(arr:Array Value)(ty:TypeId) :
  ef g w (g.lp w.heap.size arr) (w.alloc (.cells arr ty))/\Rel P gl N (g.lp w.heap.size arr) s a (w.alloc (.cells arr ty)):=by
 have d:GhLe g (g.lp w.heap.size arr):=⟨fun b off v c=>by
  have:b≠w.heap.size:=fun e=>by subst e;rw[h.uP]at c;cases c
  simp[bo.lp,this,c],fun _ _ h=>h⟩
 have cc:∀b,g.bD b≠.none->b≠w.heap.size:=fun b ae e=>by subst e;exact ae h.CA
 have f:∀b,g.bD b≠.none->(g.lp w.heap.size arr).bD b=g.bD b/\(w.alloc (.cells arr ty)).heap[b]?=w.heap[b]?/\∀o,(g.lp w.heap.size arr).γ b o=g.γ b o:=fun b ae =>
  ⟨by simp[bo.lp,cc b ae],heap_alloc_old w _ b (h.own b ae),fun _=>by simp[bo.lp,cc b ae]⟩
 refine⟨⟨d,fun b ae=>?_,by rw[nm];omega,rfl,rfl⟩,h.step .none (kH.none s) d (fun b ae=>f b ae.1) (fun b off v c=>?_) (fun b ae=>?_) h.fE⟩
 ·grind
 ·by_cases e:b=w.heap.size
  ·subst e;simp[bo.lp]at c;rw[cell_of_row _ _ _ arr ty (0,0) (heap_alloc_new w _)];exact c
  ·simp[bo.lp,e]at c;exact RM _ (h.ff b off v c)
 ·by_cases e:b=w.heap.size
  ·rw[nm];omega
  ·simp[bo.lp,e]at ae;have:=h.own b ae;rw[nm];omega
variable {γ:e4}
theorem e5.F2 :∀{cs:List AV}{ws:List Value}{off:Nat},fB γ cs ws->(∀(i:Nat)v,ws[i]?=some v->γ b (off+i)=some v)->e5 γ b off cs
 |[],_,_,.nil,_=>.nil _ _|c::cs,_,off,.cons _ _ v ws h1 U d,h=>.cons _ _ _ _ v (by simpa using h 0 v (by simp)) h1 U (e5.F2 d fun i u e=>by
   have:=h (i+1) u (by simpa using e);rw[<-this];congr 1;omega)
theorem eI.CF :∀{xs:List AV}{rows:List (List Value)}{off:Nat},xs.length=rows.length ->
  (∀(i:Nat)x r,xs[i]?=some x->rows[i]?=some r->x.cells.length=sz/\fB γ x.cells r/\r.length=sz)->(∀(i:Nat)v,rows.flatten[i]?=some v->γ b (off+i)=some v)->eI γ b off sz xs
 |[],_,_,_,_,_=>.nil _ _ _|x::xs,[],_,h,_,_=>by simp at h|x::xs,r::rows,off,h,c,d=>by
  obtain⟨f,U,k⟩:=c 0 x r (by simp) (by simp);refine .cons _ _ _ _ _ f (e5.F2 U fun i v e=>d i v ?_) (eI.CF (rows:=rows) (by simpa using h) (fun i x r ah j=>c (i+1) x r (by simpa using ah) (by simpa using j)) fun i v e=>?_)
  ·grind
  ·have:=d (sz+i) v (by rw[List.flatten_cons,List.getElem?_append_right (by omega)];rw[<-e];congr 1;omega);rw[<-this];congr 1;omega
theorem df.cells(h:df γ x v):fB γ x.cells v.cells.toList:=by
 cases h with
 |agg cs ws h=>simpa[AV.cells,Value.cells]using h|bool b=>exact .cons _ _ _ _ rfl (.bool b) .nil|int k n=>exact .cons _ _ _ _ rfl (.int k n) .nil|str l h=>exact .cons _ _ _ _ rfl (.str l h) .nil|eP=>exact .cons _ _ _ _ rfl .eP .nil|gw=>exact .cons _ _ _ _ rfl .gw .nil|ki=>exact .cons _ _ _ _ rfl .ki .nil|kj=>exact .cons _ _ _ _ rfl .kj .nil|aV sz=>exact .cons _ _ _ _ rfl (.aV sz) .nil|db b off cs h=>exact .cons _ _ _ _ rfl (.db b off cs h) .nil|jD sz base cap h=>exact .cons _ _ _ _ rfl (.jD sz base cap h) .nil|gZ sz base cap=>exact .cons _ _ _ _ rfl (.gZ sz base cap) .nil|list b off cap sz xs h1 U c=>exact .cons _ _ _ _ rfl (.list b off cap sz xs h1 U c) .nil
theorem F3(off:Nat):∀(us:List Value)(k:Nat)(A:Array Value),off+k+us.length<=A.size ->
  ((us.zipIdx k).foldl (fun cs(c,j)=>cs.setIfInBounds (off+j) c) A).toList=A.toList.take (off+k)++us++A.toList.drop (off+k+us.length)
 |[],k,A,_=>by simp|u::us,k,A,h=>by
  simp only[aB5]at h;rw[List.zipIdx_cons,List.foldl_cons,F3 off us (k+1) _ (by simp;omega)];have e:=list_seg_step A.toList (off+k) u us (by simp;omega);simpa[Array.toList_setIfInBounds,Nat.add_assoc]using e
theorem RP(size:Nat):∀(vs:List Value)(k:Nat)(A:Array Value),(∀v∈vs,v.cells.size=size)->A.size=(k+vs.length)*size ->
  ∃B,Instr.fill (fun i=>some (i*size,size)) A ((vs.zipIdx k).map fun(v,i)=>(i,v))=some B/\B.toList=A.toList.take (k*size)++(vs.map (·.cells.toList)).flatten
 |[],k,A,_,h=>⟨A,by simp[Instr.fill],by simp at h ⊢;rw[List.take_of_length_le (by simp;omega)]⟩|v::vs,k,A,m,h=>by
  have e:=m v (by simp);have n:k*size+size<=A.size:=by
   rw[h];simp only[aB5];have:(k+(vs.length+1))*size=k*size+size+vs.length*size:=by rw[Nat.add_mul,Nat.add_mul];omega
   omega
  have f:=F3 (k*size) v.cells.toList 0 A (by simp;omega);simp only[Nat.add_zero]at f;have cq:(v.cells.zipIdx.foldl (fun cs(c,j)=>cs.setIfInBounds (k*size+j) c) A)=(v.cells.toList.zipIdx.foldl (fun cs(c,j)=>cs.setIfInBounds (k*size+j) c) A):=by
   rw[<-Array.foldl_toList];simp
  have l:(v.cells.toList.zipIdx.foldl (fun cs(c,j)=>cs.setIfInBounds (k*size+j) c) A).size=A.size:=by
   rw[<-Array.length_toList,f];simp[e];omega
  have d:(k+1+vs.length)*size=(k+(v::vs).length)*size:=by congr 1;simp;omega
  obtain⟨B,p,U⟩:=RP size vs (k+1) (v.cells.zipIdx.foldl (fun cs(c,j)=>cs.setIfInBounds (k*size+j) c) A) (fun u q=>m u (by simp[q])) (by
   rw[cq,l,h,d])
  refine⟨B,?_,?_⟩
  ·simp only[List.zipIdx_cons,List.map_cons,Instr.fill];rw[if_neg (by simp[e];omega)];exact p
  ·rw[U,cq,f,List.take_left' (by simp[e,Nat.add_mul];omega)];simp only[List.map_cons,List.flatten_cons,List.append_assoc]
end
section
variable {P:Program}{gl:cp}{N:Nat}{g g':bo}{s s':an}{a:Act}{w w':World}{o:Oper}
def yj(P:Program)(t e sz:Nat):Bool :=
 match P.underlying t with
 |some (.slice b3)=>b3==e&&jE P e sz|_=>false
variable {e sz:Nat}
theorem qm(h:jE P e sz=true):∃i z,P.info? e=some i/\i.size=sz/\0<sz/\i.zero=some z/\z.cells.size=sz/\i.bytes<=128:=by
 unfold jE at h;split at h
 ·grind
 ·cases h
theorem CG{t:Nat}(h:yj P t e sz=true):P.underlying t=some (.slice e)/\jE P e sz=true:=by
 unfold yj at h;split at h
 ·grind
 ·cases h
def Kp(n:Nat)(bP:List (Nat×Operand)):Bool:=(bP.map (·.1))==List.range n
def F4(P:Program)(t sz:Nat):Bool :=
 match P.underlying t with
 |some (.slice e)=>jE P e sz&&decide (sz<=1000)|_=>false
def Ai(P:Program)(N:Nat)(o:Oper)(d sz:Nat)(xs:List aI):Bool:=cB N o d &&
 (match o.op with|.buildSlice t n bP=>n==xs.length&&Kp n bP.toList&&jh (bP.toList.map (·.2)) xs&&F4 P t sz|_=>false)
theorem Kq{n:Nat}{b:List (Nat×Operand)}(h:Kp n b=true)(f:Operand->Value) :
  b.map (fun(i,x)=>(i,f x))=((b.map (·.2)).map f).zipIdx.map fun(v,i)=>(i,v):=by
 simp only[Kp,beq_iff_eq]at h;apply List.ext_getElem?;intro i;have ak:(b.map (·.1))[i]?=(List.range n)[i]?:=by rw[h]
 simp only[List.getElem?_map,List.getElem?_zipIdx,Nat.zero_add]at ak ⊢;cases ao:b[i]? with
 |none=>simp|some p=>grind
theorem F5{t e:TypeId}{i:TypeInfo}{z:Value}{vs:List Value}(c:P.underlying t=some (.slice e))(ak:P.info? e=some i)(d:i.zero=some z)
  (az:0<i.size)(f:∀v∈vs,v.cells.size=i.size)(p:vs.length*i.size<=2 ^ 24) :
  (Instr.buildSlice t vs.length (vs.zipIdx.map fun(v,i)=>(i,v)).toArray).run P w =
   .ok (.slice (some ⟨w.heap.size,0,none⟩) vs.length vs.length) (w.alloc (.cells (vs.map (·.cells.toList)).flatten.toArray e)):=by
 have cq:((Array.range (vs.length*i.size)).map (z.cells[· % z.cells.size]!)).size=(0+vs.length)*i.size:=by simp
 obtain⟨B,j,U⟩:=RP i.size vs 0 _ f cq;simp only[Nat.zero_mul,List.take_zero,List.nil_append]at U;have fl:B=(vs.map (·.cells.toList)).flatten.toArray:=by apply Array.ext';simpa using U
 have k:¬(vs.length*i.size>2 ^ 24):=by omega
 simp only[Instr.buildSlice,Sem.run_bind,run_underlying c,Result.andThen_ok,Go.sizeOf,typeInfo,run_program,ak,Sem.run_pure,Sem.run_ite,k,if_false];by_cases b:vs.length*i.size=0
 ·have l:vs=[]:=by
   rcases Nat.mul_eq_zero.1 b with h|h
   ·exact List.eq_nil_of_length_eq_zero h
   ·omega
  subst l;have m:Array.range 0=#[]:=rfl;simp[newRow,newObj,Sem.run,Instr.fill,m]
 ·rw[if_neg b];have n:(List.map (fun(x:Value×Nat)=>(x.2,x.1)) vs.zipIdx)=vs.zipIdx.map fun(v,i)=>(i,v):=rfl;simp only[zeroValue,typeInfo,Sem.run_bind,run_program,ak,Result.andThen_ok,Sem.run_pure,d];simp only[n,j];simp[newRow,newObj,Sem.run,fl]
theorem air{d:Nat}{xs:List aI}(h:Rel P gl N g s a w)(B:Ai P N o d sz xs=true)(he:aH gl s (.lit d sz xs)=some s'):dR P gl N o g a w s':=by
 simp only[Ai,I9]at B;obtain⟨hd,j⟩:=B;split at j
 ·rename_i t n l aA;simp only[I9,beq_iff_eq]at j;obtain⟨⟨⟨rfl,J⟩,p⟩,hk⟩:=j;unfold F4 at hk;split at hk
  ·rename_i e K;simp only[I9,decide_eq_true_eq]at hk;obtain⟨L,gJ⟩:=hk;obtain⟨i,z,O,bY,c5,Q,gK,hQ⟩:=qm L;obtain⟨vs,R,q⟩:=bind_some he;split at q
   ·rename_i ae;simp only[I9,decide_eq_true_eq,List.all_eq_true,beq_iff_eq]at ae;obtain⟨S,T⟩:=ae;have C:=uD h p R;have D:(l.map fun(i,x)=>(i,a.eval x))=(((l.toList.map (·.2)).map a.eval).zipIdx.map fun(v,i)=>(i,v)).toArray:=by
     rw[<-Kq J a.eval];apply Array.ext';simp
    have E:xs.length=((l.toList.map (·.2)).map a.eval).length:=by
     simp only[jh,I9,beq_iff_eq]at p;rw[aeZ];exact p.1.symm
    generalize (l.toList.map (·.2)).map a.eval=us at C D E;have c:=C.get
    -- the concrete elements
    have F:∀(k:Nat)x v,vs[k]?=some x->us[k]?=some v->df g.γ x.aW v/\x.aW.cells.length=sz/\v.cells.size=sz:=by
     intro k x v ah f;obtain⟨U,V⟩:=S x (LW ah);obtain⟨G,b,u⟩:=c.2 k x ah;rw[f]at b;simp at b;subst b;have ao:=u.aW.Kn U;have W:x.aW.cells.length=sz:=by
      have:x.aW.cells.length=x.cells.length:=by cases x<;>rfl
      rw[this];exact V
     refine⟨ao,W,?_⟩;have X:=ao.cells;have:∀{cs:List AV}{ws:List Value},fB g.γ cs ws->ws.length=cs.length:=by
      intro cs ws H;induction ws generalizing cs with
      |nil=>cases H;rfl|cons w ws ih=>cases H with|cons _ _ _ _ _ _ Y=>simp[ih Y]
     have:=this X;simp at this;omega
    have Z:∀v∈us,v.cells.size=i.size:=by
     intro v f;obtain⟨k,jG,gd⟩:=List.getElem_of_mem f;have fQ:k<vs.length:=by have:=c.1;omega
     have:=(F k vs[k] v (by simp[fQ]) (by rw[ae0 jG,gd])).2.2;omega
    have cu:=F5 (P:=P) (w:=w) K O Q (by omega) Z (by
     have h1:us.length<=1000:=by rw[c.1];exact T
     calc _<=1000*1000:=Nat.mul_le_mul h1 (by omega)
      _<=2 ^ 24:=by decide)
    obtain⟨b,u⟩:=h.Ko (us.map (·.cells.toList)).flatten.toArray e;refine⟨.slice (some ⟨w.heap.size,0,none⟩) us.length us.length,_,_,.inl ?_,b,?_⟩
    ·simp only[execOp,aA,Sem.run_bind];rw[D,E,cu];rfl
    ·simp only[cB,I9,beq_iff_eq,decide_eq_true_eq]at hd;rw[hd.1];refine u.put q hd.2 (.pure _ _ ?_) (cP.none _ _).gb;refine .Af (by rw[aeZ];exact c.1) (by simp;unfold M;omega) (by rw[aeZ];omega) ?_;refine eI.CF (rows:=us.map (·.cells.toList)) (by rw[aeZ,aeZ];exact c.1.symm) (fun k x r ah m=>?_) fun k v f=>by simpa[bo.lp]using f
     rw[List.getElem?_map]at ah m;cases y:vs[k]? with
     |none=>simp[y]at ah|some bx =>
      cases A:us[k]? with
      |none=>simp[A]at m|some G =>
       simp[y]at ah;simp only[A,Option.map_some,Option.some.injEq]at m;subst ah m;obtain⟨m1,m2,m3⟩:=F k bx G y A;exact⟨m2,(m1.mono b.γ).cells,by simpa using m3⟩
   ·cases q
  ·cases hk
 ·cases j
end
end AM
