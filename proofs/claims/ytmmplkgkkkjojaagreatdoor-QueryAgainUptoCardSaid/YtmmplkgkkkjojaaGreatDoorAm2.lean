/- An abstract machine, and what of the given program it does, part 3. Conditions: none. -/
import Derived.Test.YtmmplkgkkkjojaaGreatDoorAm1
import Derived.Maps.RangeRun
import Derived.Lib.UnsafeStr
set_option linter.unusedSimpArgs false
set_option linter.unusedVariables false
namespace AM
open Bool renaming and_eq_true -> aKB,false_eq_true -> aKH
open List renaming getElem?_eq_some_iff -> aKC,pairwise_iff_getElem -> aKD,mem_of_getElem? -> aKF,map_cons -> aKG,getElem_of_mem -> aKI,getElem?_eq_getElem -> aKK,pairwise_cons -> aKL,map_nil -> aKM,getElem?_set -> aKO,mem_map -> aKP,getElem_mem -> aKQ,pairwise_map -> aKR,getElem?_append_left -> aKT,length_append -> aKU,map_congr_left -> aKW,length_nil -> aKX,eq_nil_of_length_eq_zero -> aKY,getElem?_take -> aKZ,getElem?_append_right -> aK2
open Nat renaming le_refl -> aKE,zero_add -> aKJ,lt_trichotomy -> aKN,zero_le -> aKS
open Array renaming getElem?_eq_some_iff -> aKV
open Go Go.Maps
section
variable {P:Program}{gl:cQ}{N:Nat}{g g':bD}{s s':au}{a:Act}{w w':World}{o:Oper}{γ fm:fA}
theorem Rel.MX(h:Rel P gl N g s a w)(x:Obj)(bM:ay)
  (l:∀g',(∀b,g'.bO b=(g.jB w.heap.size (.bM s.heap.length)).bO b)->GhLe g g'->g'.cg s.heap.length=some w.heap.size->tb P g' (w.alloc x) s.heap.length bM) :
  ∃g',eL g w g' (w.alloc x)/\Rel P gl N g' { s with heap:=s.heap++[bM] } a (w.alloc x)/\g'.cg s.heap.length=some w.heap.size:=by
 obtain⟨m,d⟩:=h.alloc x (.bM s.heap.length);let c:bD:={ g.jB w.heap.size (.bM s.heap.length)with cg:=λid=>if id=s.heap.length then some w.heap.size else g.cg id }
 have f:GhLe (g.jB w.heap.size (.bM s.heap.length)) c:=⟨λ_ _ _ h=>h,λid b i=>by
  have:=h.ga id b i;simp[c,show id≠s.heap.length by omega];exact i⟩
 have hk:∀K,Kept (g.jB w.heap.size (.bM s.heap.length)) (w.alloc x) c (w.alloc x) K:=λK b _=>⟨rfl,rfl,λ_=>rfl⟩;have k:eL g w c (w.alloc x):=m.trans ⟨f,λb ae=>⟨ae,rfl,λ_=>rfl⟩,aKE _,rfl,rfl⟩;refine⟨c,k,?_,by simp[c]⟩;refine⟨d.sorted,d.size,d.defers,λt e he=>(d.env t e he).kept f (hk λ_=>True) trivial trivial (λ_=>trivial),λid n j=>?_,d.fI,d.own,d.hf,λid b i=>?_⟩
 ·simp only at j;rcases aKN id s.heap.length with p|rfl|q
  ·rw[aKT p]at j;exact(d.heap id n j).kept f (hk λ_=>True) (λ_=>trivial) (λ_=>trivial)
  ·simp at j;subst j;exact l c (λ_=>rfl) k.toGhLe (by simp[c])
  ·grind
 ·simp only[aKU,List.length_singleton];by_cases e:id=s.heap.length
  ·omega
  ·simp[c,e]at i;have:=h.ga id b i;omega
theorem aob(id:Nat):cY (.map id):=λ_ _ _ h=>by simp at h
def MY(N:Nat)(o:Oper)(d:Nat):Bool:=cZ N o d&&(match o.op with|.makeMap _ none=>true|_=>false)
theorem run_makeMap{t:TypeId}:(Instr.makeMap t none).run P w=.ok (.map (some w.heap.size)) (w.alloc (.map #[] 0)):=by
 rfl
theorem aoc{d:Nat}(h:Rel P gl N g s a w)(b:MY N o d=true)(he:aJ gl s (.vz d)=some s'):eu P gl N o g a w s':=by
 simp only[MY,aKB]at b;obtain⟨hd,c⟩:=b;split at c
 ·rename_i t aE;simp only[aJ]at he;simp only[cZ,aKB,beq_iff_eq,decide_eq_true_eq]at hd;obtain⟨g',e,f,i⟩:=h.MX (.map #[] 0) (.map 0 []) (λg' j l k =>
   ⟨w.heap.size,k,#[],heap_alloc_new w _,by rw[j];simp[bD.jB],⟨[],.nil,rfl,be⟩,be,be,be,[],be⟩)
  refine⟨.map (some w.heap.size),w.alloc (.map #[] 0),g',.inl ?_,e,?_⟩
  ·simp only[execOp,aE,Option.map_none,Sem.run_bind,run_makeMap,Result.andThen_ok,Sem.run_pure]
  ·rw[hd.1];exact f.put he hd.2 (.map _ _ i) (aob _).gG
 ·cases c
variable {es:List (AV×AV)}{x:AV}
theorem aod(h:∀e∈es,dS x e.1=false):hl es x=none:=by
 induction es with
 |nil=>rfl|cons e r ih =>
  obtain⟨k,v⟩:=e;have:=h (k,v) be;simp only at this;simp[hl,this,ih λe he=>h e (by simp[he])]
theorem aoe{k v:AV}(he:(k,v)∈es)(hk:dS x k=true)(f:∀e∈es,dS x e.1=true->e.1=k)(ar:es.Pairwise λx y=>x.1≠y.1):hl es x=some v:=by
 induction es with
 |nil=>simp at he|cons e r ih =>
  obtain⟨b,h⟩:=e;obtain⟨i,j⟩:=aKL.1 ar;simp only[hl];by_cases d:dS x b=true
  ·have:=f (b,h) be d;simp only at this;subst this;rcases List.mem_cons.1 he with c|c
   ·simp at c;simp[d,c]
   ·exact absurd (rfl:b=b) (i (b,v) c)
  ·grind
variable {ks:List Nat}
theorem aof{c:List Nat}(h:lr ks es=true)(d:∀e∈es,fE c e.1=true):∀e∈es,fE ks e.1=true:=by
 cases es with
 |nil=>simp|cons e r =>
  obtain⟨k,v⟩:=e;have f:=d (k,v) be;simp only[lr]at h;have:ks=c:=by
   rcases vY h with⟨l,rfl,b⟩|⟨cs,rfl,_,b,_⟩
   ·exact b.trans (an8 f).symm
   ·rcases vY f with⟨l,h,_⟩|⟨i,h,_,j,_⟩
    ·cases h
    ·cases h;exact b.symm.trans j
  subst this;exact d
structure kt(P:Program)(g:bD)(w:World)(id b n:Nat)(es:List (AV×AV))(ks:List Nat)(arr:Array MapEntry)(dd:List (AV×AV)):Prop where
 l6:w.heap[b]?=some (.map arr n)
 own:g.bO b=.bM id
 perm:dd.Perm es
 len:dd.length=arr.toList.length
 at_:∀(i:Nat)e m,dd[i]?=some e->arr.toList[i]?=some m->Bm P g w id e m
 born:arr.toList.Pairwise (λx y=>x.born<y.born)
 lt:∀m∈arr.toList,m.born<n
 uniq:es.Pairwise (λx y=>dS x.1 y.1=false)
 fit:∀e∈es,fE ks e.1=true
theorem np.at{id b n:Nat}(h:np P g w id b n es)(c:lr ks es=true):∃arr dd,kt P g w id b n es ks arr dd:=by
 obtain⟨arr,d,e,⟨dd,f,i,j⟩,k,l,m,q,p⟩:=h;exact⟨arr,dd,d,e,f,i,j,k,l,m,aof c p⟩
section
variable {id b n:Nat}{es dd:List (AV×AV)}{ks:List Nat}{arr:Array MapEntry}
theorem kt.other(h:kt P g w id b n es ks arr dd){m:MapEntry}(hm:m∈arr.toList):∃(i:Nat)(e:AV×AV),dd[i]?=some e/\arr.toList[i]?=some m/\e∈es/\Bm P g w id e m:=by
 obtain⟨i,al,f⟩:=aKI hm;have j:i<dd.length:=by rw[h.len];exact al
 have c:dd[i]?=some dd[i]:=by simp[j]
 have d:arr.toList[i]?=some m:=by rw[aKK al,f]
 exact⟨i,_,c,d,h.perm.mem_iff.1 (aKF c),h.at_ i _ _ c d⟩
theorem kt.vZ(h:kt P g w id b n es ks arr dd){e:AV×AV}(he:e∈es):∃(i:Nat)(m:MapEntry),dd[i]?=some e/\arr.toList[i]?=some m/\Bm P g w id e m:=by
 obtain⟨i,al,f⟩:=aKI (h.perm.mem_iff.2 he);have j:i<arr.toList.length:=by rw[<-h.len];exact al
 have c:dd[i]?=some e:=by rw[aKK al,f]
 have d:arr.toList[i]?=some arr.toList[i]:=aKK j;exact⟨i,_,c,d,h.at_ i _ _ c d⟩
theorem kt.ne(h:kt P g w id b n es ks arr dd):es.Pairwise λx y=>x.1≠y.1:=by
 refine List.Pairwise.imp_of_mem ?_ h.uniq;intro x y ah c d e;obtain⟨_,m,_,_,f,_⟩:=h.vZ ah;have:=(Et (h.fit x ah) (h.fit y c) (bn.key (γ:=g.γ) (h.fit x ah) f) (bn.key (γ:=g.γ) (h.fit y c) (e▸f))).2 e;rw[this]at d;cases d
theorem kt.find(h:kt P g w id b n es ks arr dd){q:TypeId}(hk:tp P q ks=true){kk:AV}{v:Value}(c:fE ks kk=true)(E:bn g kk v) :
  (∀t,(Instr.checkKey t 10000 q v).run P w=.ok () w) /\
  (((Instr.findKey q v arr.toList).run P w=.ok none w/\hl es kk=none/\(∀e∈es,dS kk e.1=false)/\∀m∈arr.toList,m.key≠v) \/
   ∃(j:Nat)(m:MapEntry)(x:AV),(Instr.findKey q v arr.toList).run P w=.ok (some (j,m.val)) w/\arr.toList[j]?=some m/\m.key=v/\dd[j]?=some (kk,x)/\hl es kk=some x/\Bm P g w id (kk,x) m):=by
 have K:=MV hk;have p:=bn.key (γ:=g.γ) c E;obtain⟨l,z⟩:=H3 hk c p;have F:∀m∈arr.toList,∃l,keyOf P q m.key=some l:=λm hm=>by
  obtain⟨i,e,_,_,he,r⟩:=h.other hm;exact H3 hk (h.fit e he) (bn.key (γ:=g.γ) (h.fit e he) r.1)
 refine⟨λt=>K.check w t z,?_⟩;rcases K.find w z arr.toList F with⟨u,d⟩|⟨j,m,u,d,A⟩
 ·have cG:∀e∈es,dS kk e.1=false:=λe he=>by
   obtain⟨i,m,_,hm,r⟩:=h.vZ he;cases G:dS kk e.1 with
   |false=>rfl|true =>
    have:=(xV c (h.fit e he) p (bn.key (γ:=g.γ) (h.fit e he) r.1)).1.1 G;exact absurd this.symm (d m (aKF hm))
  exact .inl ⟨u,aod cG,cG,d⟩
 ·obtain⟨i,e,al,hm,he,r⟩:=h.other (aKF d);have B:j<dd.length:=by rw[h.len];exact(aKC.1 d).1
  have C:dd[j]?=some dd[j]:=by simp[B]
  have D:=h.at_ j _ _ C d;have y:dd[j]∈es:=h.perm.mem_iff.1 (aKQ B);have H:=bn.key (γ:=g.γ) (h.fit _ y) D.1;have f:=(xV c (h.fit _ y) p H).2.2 A.symm;refine .inr ⟨j,m,dd[j].2,u,d,A,?_,?_,?_⟩
  ·rw[C,f]
  ·refine aoe (k:=kk) (by rw[f];exact y) ((xV c c p p).1.2 rfl) (λe he J=>?_) h.ne;obtain⟨_,O,_,_,L⟩:=h.vZ he;exact((Et c (h.fit e he) p (bn.key (γ:=g.γ) (h.fit e he) L.1)).1 J).symm
  ·rw[f];exact D
end
def Vb(P:Program)(t:TypeId)(z:AV):Bool:=match P.info? t with
 |some i=>(match i.zero with|some v=>const v z|none=>false)|none=>false
def MZ(P:Program)(N:Nat)(o:Oper)(ks:List Nat)(d:Nat)(m k:aL)(zero:AV)(ok:Bool):Bool:=cZ N o d &&
 (match o.op with
  |.lookup t fT k' xX=>dJ fT m&&dJ k' k&&xX==ok&&(match P.underlying t with|some (.map eM hP)=>tp P eM ks&&Vb P hP zero|_=>false)|_=>false)
variable {t eM hP:TypeId}{b n:Nat}{arr:Array MapEntry}{k:Value}{ok:Bool}
theorem Vc{x:Value}{j:Nat}(c:P.underlying t=some (.map eM hP))(ae:w.heap[b]?=some (.map arr n))
  (d:∀e,(Instr.checkKey e 10000 eM k).run P w=.ok () w)(f:(Instr.findKey eM k arr.toList).run P w=.ok (some (j,x)) w) :
  (Instr.lookup t (.map (some b)) k ok).run P w=.ok (if ok=true then .tuple #[x,.bool true]else x) w:=by
 simp only[Instr.lookup,Sem.run_bind,run_underlying c,Result.andThen_ok,MapKept.run_getObj_map ae,Sem.run_pure,d,f]
variable {z:Value}{i:TypeInfo}
theorem Vd(c:P.underlying t=some (.map eM hP))(ae:w.heap[b]?=some (.map arr n))
  (d:∀e,(Instr.checkKey e 10000 eM k).run P w=.ok () w)(f:(Instr.findKey eM k arr.toList).run P w=.ok none w)(al:P.info? hP=some i)(h:i.zero=some z) :
  (Instr.lookup t (.map (some b)) k ok).run P w=.ok (if ok=true then .tuple #[z,.bool false]else z) w:=by
 simp only[Instr.lookup,Sem.run_bind,run_underlying c,Result.andThen_ok,MapKept.run_getObj_map ae,Sem.run_pure,d,f,zeroValue,typeInfo,run_program,al,h]
theorem aog(c:P.underlying t=some (.map eM hP))
  (d:∀e,(Instr.checkKey e 10000 eM k).run P w=.ok () w)(f:(Instr.findKey eM k []).run P w=.ok none w)(al:P.info? hP=some i)(h:i.zero=some z) :
  (Instr.lookup t (.map none) k ok).run P w=.ok (if ok=true then .tuple #[z,.bool false]else z) w:=by
 simp only[Instr.lookup,Sem.run_bind,run_underlying c,Result.andThen_ok,Sem.run_pure,d,f,zeroValue,typeInfo,run_program,al,h]
variable {v:Value}{c:Bool}
theorem bn.opt(h:bn g x v)(ok:Bool):bn g (if ok=true then .bg [x,.bool c]else x) (if ok=true then .tuple #[v,.bool c]else v):=by
 cases ok with
 |false=>exact h|true=>exact .bg _ [v,.bool c] (.cons _ _ _ _ h (.cons _ _ _ _ (.pure _ _ (.bool _)) .nil))
theorem M0(h:cY x)(ok:Bool):cY (if ok=true then .bg [x,.bool c]else x):=by
 cases ok with
 |false=>exact h|true=>intro e sz xs h;simp at h
theorem aoh{z:AV}(h:const v z=true):cY z:=by
 have:=LV (γ:=λ_ _=>none) h;intro e sz xs d;subst d;cases this
theorem aoi{d:Nat}{m k:aL}{zero:AV}(h:Rel P gl N g s a w)(J:MZ P N o ks d m k zero ok=true)(he:aJ gl s (.look ks d m k zero ok)=some s'):eu P gl N o g a w s':=by
 simp only[MZ,aKB]at J;obtain⟨hd,f⟩:=J;split at f
 ·rename_i t fT k' r aE;simp only[aKB,beq_iff_eq]at f;obtain⟨⟨⟨hm,hk⟩,rfl⟩,f⟩:=f;split at f
  ·rename_i eM hP C;simp only[aKB]at f;obtain⟨D,p⟩:=f;unfold Vb at p;split at p
   ·rename_i i al;split at p
    ·rename_i V L;have O:bn g zero V:=.pure _ _ (LV p);have Q:=aoh p;simp only[aJ]at he;split at he
     ·rename_i id W E F;split at he
      ·rename_i M1 es X;split at he
       ·rename_i u;simp only[aKB]at u;obtain⟨b,Y,Z⟩:=h.heap _ _ X;obtain⟨arr,dd,A⟩:=Z.at u.2;obtain⟨b5,G,R⟩:=(dk h hm E).vJ;rw[Y]at G;simp at G;subst G;have H:=dk h hk F;obtain⟨S,mH⟩:=A.find D u.1 H;rcases mH with⟨y,B,_⟩|⟨j,l7,x,y,B,f3,f4,f5,f6⟩
        ·rw[B]at he;refine .value h hd he ?_ (O.opt r) (M0 Q r);simp only[execOp,aE,R,Sem.run_bind,Vd C A.l6 S y al L,Result.andThen_ok,Sem.run_pure]
        ·rw[f5]at he;refine .value h hd he ?_ (bn.opt (bn.a1 f6.2.2.1) r) (M0 (cY.a1 _) r);simp only[execOp,aE,R,Sem.run_bind,Vc C A.l6 S y,Result.andThen_ok,Sem.run_pure]
       ·cases he
      ·cases he
     ·rename_i W E F;split at he
      ·rename_i u;have q:=(dk h hm E).L9;have H:=dk h hk F;have K:=MV D;obtain⟨l,T⟩:=H3 D u (bn.key (γ:=g.γ) u H);refine .value h hd he ?_ (O.opt r) (M0 Q r);rcases K.find w T [] be with⟨y,_⟩|⟨j,e,_,B,_⟩
       ·simp only[execOp,aE,q,Sem.run_bind,aog C (λem=>K.check w em T) y al L,Result.andThen_ok,Sem.run_pure]
       ·simp at B
      ·cases he
     ·cases he
    ·cases p
   ·cases p
  ·cases f
 ·cases f
end
section
variable {P:Program}{gl:cQ}{N:Nat}{g g':bD}{s s':au}{a:Act}{w w':World}{o:Oper}{γ fm:fA}
def mJ(w:World)(b:Nat)(arr:Array MapEntry)(n:Nat):World:={ w with heap:=w.heap.setIfInBounds b (.map arr n) }
variable {b n n':Nat}{arr arr':Array MapEntry}
theorem M3(h:w.heap[b]?=some (.map arr n)):(mJ w b arr' n').heap[b]?=some (.map arr' n'):=by
 have:=(aKV.1 h).1;simp[mJ,this]
theorem BH{k:Nat}(h:k≠b):(mJ w b arr' n').heap[k]?=w.heap[k]?:=by
 simp[mJ,Array.getElem?_setIfInBounds_ne (Ne.symm h)]
theorem Vg :(mJ w b arr' n').heap.size=w.heap.size:=by simp[mJ]
variable {id:Nat}
theorem tb.aoj{q:Nat}{o:ay}(h:tb P g w q o)(j:q≠id)(ae:g.cg id=some b)(aE:g.bO b=.bM id)(r:w.heap[b]?=some (.map arr n))(aI:n<=n')
  (D:n'=n->∀m∈arr'.toList,∃t∈arr.toList,t.born=m.born/\t.key=m.key):tb P g (mJ w b arr' n') q o:=by
 have y:GhLe g g:=⟨λ_ _ _ h=>h,λ_ _ h=>h⟩;have hk:Kept g w g (mJ w b arr' n') λo=>o≠.bM id:=λk hk=>⟨rfl,BH (λe=>hk (by rw[e,aE])),λ_=>rfl⟩;cases o with
 |cells cs=>obtain⟨c,d,f⟩:=h;exact⟨c,d,f.kept y hk (by simp[j]) be⟩
 |buf e cs =>
  obtain⟨c,k,d,f,l,⟨arr,i,E⟩,F⟩:=h;have u:g.bO c=.bM q:=l.choose_spec.choose_spec.2.2.1;refine⟨c,k,d,f,l.kept y hk (by simp[j]) be,⟨arr,?_,E⟩,F⟩;exact(hk c (by rw[u];simp[j])).2.1.trans i
 |map n es=>obtain⟨c,d,f⟩:=h;exact⟨c,d,f.kept y hk (by simp[j]) be⟩
 |iter m since seen =>
  obtain⟨c,o,d,f,l,i⟩:=h;refine⟨c,o,d,(hk c (by rw[l];simp[j])).2.1.trans f,l,?_⟩;cases m with
  |none =>
   cases o<;>first|exact i|skip
   rename_i mp _ _ _;cases mp<;>exact i
  |some mid =>
   cases o<;>try exact i
   rename_i mp s hn last;cases mp with
   |none=>exact i|some bu =>
    obtain⟨v,p,u,z,A,G,H,x,J⟩:=i;by_cases hm:mid=id
    ·subst hm;rw[ae]at v;simp at v;subst v;rw[r]at x;simp at x;obtain⟨rfl,rfl⟩:=x;refine⟨ae,p,u,z,?_,arr',n',M3 r,am⟩;obtain⟨L,K,O,Q,R,S⟩:=A;refine⟨L,K,O,Q,R,λT aG m hm=>?_⟩;rw[M3 r]at aG;simp at aG;obtain⟨rfl,rfl⟩:=aG;have B:n'=n:=by omega
     obtain⟨t,V,W,X⟩:=D B m hm;subst B;obtain⟨k,Y,Z⟩:=S _ r t V;exact⟨k,by rw[<-W];exact Y,by rw[<-X];exact Z⟩
    ·have C:bu≠b:=λe=>by rw[e,aE]at p;simp at p;exact hm p.symm
     exact⟨v,p,u,z,A.kept (BH C),G,H,(BH C).trans x,J⟩
 |dead=>trivial
theorem Rel.H5(h:Rel P gl N g s a w){es dd es2 es2':List (AV×AV)}{ks:List Nat}(ae:g.cg id=some b)(A:kt P g w id b n es ks arr dd)(q:n<=n')
  (r:es2'.Perm es2)(d:es2'.length=arr'.toList.length)(u:∀(i:Nat)e m,es2'[i]?=some e->arr'.toList[i]?=some m->Bm P g w id e m)
  (z:arr'.toList.Pairwise λx y=>x.born<y.born)(B:∀m∈arr'.toList,m.born<n')(j:es2.Pairwise λx y=>dS x.1 y.1=false)(C:∀e∈es2,fE ks e.1=true)
  (D:n'=n->∀m∈arr'.toList,∃p∈arr.toList,p.born=m.born/\p.key=m.key) :
  eL g w g (mJ w b arr' n')/\Rel P gl N g { s with heap:=s.heap.set id (.map n' es2) } a (mJ w b arr' n'):=by
 have l:GhLe g g:=⟨λ_ _ _ h=>h,λ_ _ h=>h⟩;have hk:Kept g w g (mJ w b arr' n') λo=>o≠.bM id:=λk hk=>⟨rfl,BH (λe=>hk (by rw[e,A.own])),λ_=>rfl⟩;refine⟨⟨l,λk hk=>⟨hk,BH (λe=>by rw[e,A.own]at hk;cases hk),λ_=>rfl⟩,by rw[Vg];exact aKE _,rfl,rfl⟩,?_⟩;refine⟨h.sorted,h.size,h.defers,λt e he=>(h.env t e he).kept l hk be be be,λE bM c=>?_,λk off v F=>?_,λk hk=>by rw[Vg];exact h.own k hk,h.hf,λi b al=>i9⟩
 ·simp only at c;rw[aKO]at c;split at c
  ·rename_i e;subst e;split at c
   ·simp at c;subst c;refine⟨b,ae,arr',M3 A.l6,A.own,⟨es2',r,d,λi e m he hm=>?_⟩,z,B,j,ks,C⟩;obtain⟨G,H,J,K⟩:=u i e m he hm;exact⟨G,H,J,K.kept l hk be⟩
   ·cases c
  ·rename_i e;exact(h.heap E bM c).aoj (λh=>e h.symm) ae A.own A.l6 q D
 ·have f:=h.fI k off v F;by_cases e:k=b
  ·subst e;unfold World.cell? at f;rw[A.l6]at f;simp at f
  ·unfold World.cell? at f ⊢;rw[BH e];exact f
section
variable {id b n:Nat}{es dd:List (AV×AV)}{ks:List Nat}{arr:Array MapEntry}
def pz(kk x:AV)(e:AV×AV):AV×AV:=if dS kk e.1=true then(e.1,x)else e
variable {kk x:AV}
theorem M4 :∀{es:List (AV×AV)},es.Pairwise (λe c=>dS kk e.1=true->dS kk c.1=false)->jv es kk x=es.map (pz kk x)
 |[],_=>rfl|(k,u)::r,h=>by
  obtain⟨d,f⟩:=aKL.1 h;simp only[jv,aKG,pz];by_cases hk:dS kk k=true
  ·simp only[hk,if_true,List.cons.injEq,true_and];have:∀e∈r,pz kk x e=e:=λe he=>by simp[pz,d e he hk]
   rw[aKW this];simp
  ·simp only[hk,aKH,if_false,M4 f]
theorem Vh :∀{es:List (AV×AV)},es.Pairwise (λe c=>dS kk e.1=true->dS kk c.1=false)->vB es kk=es.filter (λe=>!dS kk e.1)
 |[],_=>rfl|(k,u)::r,h=>by
  obtain⟨d,f⟩:=aKL.1 h;simp only[vB,List.filter_cons];by_cases hk:dS kk k=true
  ·simp only[hk,if_true,Bool.not_true,aKH,if_false];rw[List.filter_eq_self.2];intro e he;simp[d e he hk]
  ·simp only[hk,aKH,if_false,Vh f];simp
theorem BJ :∀{es:List (AV×AV)},(uv es kk x).Perm ((kk,x)::es)
 |[]=>.refl _|(k,u)::r=>by
  simp only[uv];split
  ·exact .refl _
  ·exact((BJ (es:=r)).cons _).trans (.swap _ _ _)
variable {v:Value}
theorem kt.once(A:kt P g w id b n es ks arr dd)(f:fE ks kk=true)(i:bn g kk v) :
  (∀e∈es,dS kk e.1=true↔kk=e.1)/\∀l:List (AV×AV),l.Perm es->l.Pairwise (λe j=>dS kk e.1=true->dS kk j.1=false):=by
 have c:∀e∈es,dS kk e.1=true↔kk=e.1:=λe he=>by
  obtain⟨_,m,_,_,q⟩:=A.vZ he;exact Et f (A.fit e he) (bn.key (γ:=g.γ) f i) (bn.key (γ:=g.γ) (A.fit e he) q.1)
 refine⟨c,λl d=>?_⟩;have:l.Pairwise λx y=>x.1≠y.1:=(d.symm.pairwise_iff (λ{x y}(h:x.1≠y.1)=>h.symm)).1 A.ne;refine List.Pairwise.imp_of_mem ?_ this;intro x y ah k p hk;cases r:dS kk y.1 with
 |false=>rfl|true=>exact absurd (((c x (d.mem_iff.1 ah)).1 hk).symm.trans ((c y (d.mem_iff.1 k)).1 r)) p
variable {y:AV}
theorem M5 :∀{l:List (AV×AV)}{j:Nat},l[j]?=some (kk,y)->dS kk kk=true->l.Pairwise (λe f=>dS kk e.1=true->dS kk f.1=false)->l.set j (kk,x)=l.map (pz kk x)
 |[],j,h,_,_=>by simp at h|e::r,0,h,hk,ar=>by
  simp at h;subst h;obtain⟨c,d⟩:=aKL.1 ar;simp only[List.set_cons_zero,aKG,pz,hk,if_true,List.cons.injEq,true_and];have:∀e∈r,pz kk x e=e:=λe he=>by simp[pz,c e he hk]
  rw[aKW this];simp
 |e::r,j+1,h,hk,ar=>by
  obtain⟨c,d⟩:=aKL.1 ar;simp only[List.set_cons_succ,aKG,List.cons.injEq];have hm:(kk,y)∈r:=aKF f8;refine⟨?_,M5 (j:=j) f8 hk d⟩;cases he:dS kk e.1 with
  |false=>simp[pz,he]|true=>have:=c _ hm he;simp only at this;rw[hk]at this;cases this
theorem erase_filter :∀{l:List (AV×AV)}{j:Nat},l[j]?=some (kk,y)->dS kk kk=true->l.Pairwise (λe f=>dS kk e.1=true->dS kk f.1=false)->l.eraseIdx j=l.filter (λe=>!dS kk e.1)
 |[],j,h,_,_=>by simp at h|e::r,0,h,hk,ar=>by
  simp at h;subst h;obtain⟨c,d⟩:=aKL.1 ar;simp only[List.eraseIdx_cons_zero,List.filter_cons,hk,Bool.not_true,aKH,if_false];rw[List.filter_eq_self.2];intro e he;simp[c e he hk]
 |e::r,j+1,h,hk,ar=>by
  obtain⟨c,d⟩:=aKL.1 ar;have hm:(kk,y)∈r:=aKF f8;have he:dS kk e.1=false:=by grind
  simp only[List.eraseIdx_cons_succ,List.filter_cons,he,Bool.not_false,if_true,List.cons.injEq,true_and];exact erase_filter f8 hk d
theorem kt.self(c:fE ks kk=true)(d:bn g kk v):dS kk kk=true :=
 (xV c c (bn.key (γ:=g.γ) c d) (bn.key (γ:=g.γ) c d)).1.2 rfl
theorem M6{arr:Array MapEntry}(j:Nat)(f:MapEntry->MapEntry)(i:Nat):(arr.modify j f).toList[i]?=if j=i then arr.toList[i]?.map f else arr.toList[i]?:=by grind
theorem aol{l c:List MapEntry}(h:l.Pairwise λx y=>x.born<y.born)(he:c.map (·.born)=l.map (·.born)):c.Pairwise λx y=>x.born<y.born:=by
 have d:(l.map (·.born)).Pairwise (·<·):=aKR.2 h;rw[<-he]at d;exact aKR.1 d
theorem Vi(h:fE ks x=true):ia x=true:=by
 rcases vY h with⟨l,rfl,_⟩|⟨cs,rfl,_,d,e⟩
 ·rfl
 ·simp only[ia,List.all_eq_true];intro c f;rcases e (nW c) (by rw[<-d];exact aKP.2 ⟨c,f,rfl⟩)with hk|hk
  ·obtain⟨l,rfl⟩:=Er hk;rfl
  ·obtain⟨l,rfl⟩:=Es hk;rfl
def Ew(P:Program)(o:Oper)(ks:List Nat)(m k v:aL):Bool:=o.dst==none &&
 (match o.op with
  |.mapUpdate t fT k' c6=>dJ fT m&&dJ k' k&&dJ c6 v&&(match P.underlying t with|some (.map eM _)=>tp P eM ks|_=>false)|_=>false)
variable {t eM hP:TypeId}{k:Value}
theorem aom{b n j:Nat}{arr:Array MapEntry}{m:MapEntry}{x:Value}(c:P.underlying t=some (.map eM hP))(ae:w.heap[b]?=some (.map arr n))
  (d:∀f,(Instr.checkKey f 10000 eM k).run P w=.ok () w)(h:(Instr.findKey eM k arr.toList).run P w=.ok (some (j,x)) w)(hm:arr.toList[j]?=some m)(hk:m.key=k)
  (ax:(Instr.keyThatStays k k).run P w=.ok k w) :
  (Instr.mapUpdate t (.map (some b)) k v).run P w=.ok () (mJ w b (arr.modify j λe=>{ e with key:=k,val:=v }) n):=by
 have i:((arr[j]?).map (·.key)).getD k=k:=by grind
 simp only[Instr.mapUpdate,Sem.run_bind,run_underlying c,Result.andThen_ok,MapKept.run_getObj_map ae,d,h,i,ax,MapKept.run_setObj_map _ ae,mJ]
theorem aon{b n:Nat}{arr:Array MapEntry}(c:P.underlying t=some (.map eM hP))(ae:w.heap[b]?=some (.map arr n))
  (d:∀e,(Instr.checkKey e 10000 eM k).run P w=.ok () w)(f:(Instr.findKey eM k arr.toList).run P w=.ok none w) :
  (Instr.mapUpdate t (.map (some b)) k v).run P w=.ok () (mJ w b (arr.push { key:=k,val:=v,born:=n }) (n+1)):=by
 simp only[Instr.mapUpdate,Sem.run_bind,run_underlying c,Result.andThen_ok,MapKept.run_getObj_map ae,d,f,MapKept.run_setObj_map _ ae,mJ]
theorem Vj(h:Rel P gl N g s a w)(ae:g.cg id=some b)(A:kt P g w id b n es ks arr dd)(S:P.underlying t=some (.map eM hP))(hk:tp P eM ks=true)
  {c:Value}(f:fE ks kk=true)(r:bn g kk c)(ah:bn g x v)(aE:∀born,(hl es kk=none->born=n)->(∀(j:Nat)y m,hl es kk=some y->dd[j]?=some (kk,y)->arr.toList[j]?=some m->born=m.born)->fC P g w (.oc id born) x v) :
  ∃w',(Instr.mapUpdate t (.map (some b)) c v).run P w=.ok () w'/\eL g w g w'/\Rel P gl N g { s with heap:=s.heap.set id (pr n es kk x) } a w':=by
 obtain⟨T,mH⟩:=A.find hk f r;obtain⟨M7,F⟩:=A.once f r;have G:dS kk kk=true:=kt.self f r;rcases mH with⟨H,V,u,W⟩|⟨j,l7,y,H,u,W,z,X,f7⟩
 ·refine⟨_,aon S A.l6 T H,?_⟩;have J:=aE n (λ_=>rfl) (λj y m B=>by rw[V]at B;cases B);have:=h.H5 (n':=n+1) (es2:=uv es kk x) (es2':=dd++[(kk,x)]) (arr':=arr.push { key:=c,val:=v,born:=n }) ae A am
   ((List.perm_append_comm.trans (A.perm.cons _)).trans BJ.symm) (by simp[A.len]) (λi e m he hm=>by
    simp only[Array.toList_push]at hm;by_cases al:i<dd.length
    ·rw[aKT al]at he;rw[aKT (by rw[<-A.len];exact al)]at hm;exact A.at_ i e m he hm
    ·rw[aK2 am]at he;rw[aK2 (by rw[<-A.len];omega)]at hm;have bS:i-dd.length=0:=by grind
     rw[<-A.len]at hm;rw[bS]at he hm;simp at he hm;subst he hm;exact⟨r,Vi f,ah,J⟩)
   (by
    simp only[Array.toList_push];refine List.pairwise_append.2 ⟨A.born,be,λx ah y B=>?_⟩;simp at B;subst B;exact A.lt x ah)
   (λm hm=>by
    simp only[Array.toList_push,List.mem_append,List.mem_singleton]at hm;rcases hm with hm|rfl
    ·have:=A.lt m hm;omega
    ·simp)
   (by
    have aNL:((kk,x)::es).Pairwise λx y=>dS x.1 y.1=false:=aKL.2 ⟨λe he=>u e he,A.uniq⟩;have K:((kk,x)::es).Pairwise λx y=>x.1≠y.1:=aKL.2 ⟨(λe he Y=>by
     have:=u e he;simp only at Y;rw[(M7 e he).2 Y]at this;cases this),A.ne⟩
    have L:(uv es kk x).Pairwise λx y=>x.1≠y.1:=(BJ.symm.pairwise_iff (λ{x y}(h:x.1≠y.1)=>h.symm)).1 K;refine List.Pairwise.imp_of_mem ?_ L;intro p q ar bk M8;have Z:∀p∈(kk,x)::es,fE ks p.1=true/\∃v,dr g.γ p.1 v:=λp ar=>by
     rcases List.mem_cons.1 ar with rfl|ar
     ·exact⟨f,c,bn.key f r⟩
     ·obtain⟨_,m,_,_,q⟩:=A.vZ ar;exact⟨A.fit p ar,m.key,bn.key (A.fit p ar) q.1⟩
    obtain⟨dL,v1,a2⟩:=Z p (BJ.mem_iff.1 ar);obtain⟨dZ,v2,en⟩:=Z q (BJ.mem_iff.1 bk);cases bh:dS p.1 q.1 with
    |false=>rfl|true=>exact absurd ((Et dL dZ a2 en).1 bh) M8)
   (λe he=>by
    rcases List.mem_cons.1 (BJ.mem_iff.1 he)with rfl|he
    ·exact f
    ·exact A.fit e he)
   (λh=>am)
  simp only[pr,V];exact this
 ·have O:(Instr.keyThatStays c c).run P w=.ok c w:=by
   obtain⟨l,aC⟩:=H3 hk f (bn.key (γ:=g.γ) f r);exact(MV hk).stays w aC
  refine⟨_,aom S A.l6 T H u W O,?_⟩;have J:=aE l7.born (λh=>by rw[X]at h;cases h) (λD hy fT B E hm=>by
   have M9:D=j:=by
    have d:=F dd A.perm;rcases aKN D j with C|he|C
    ·have:=aKD.1 d D j (aKC.1 E).1 (aKC.1 z).1 C;rw[(aKC.1 E).2,(aKC.1 z).2]at this;simp only[G,forall_const]at this;cases this
    ·exact he
    ·have:=aKD.1 d j D (aKC.1 z).1 (aKC.1 E).1 C;rw[(aKC.1 E).2,(aKC.1 z).2]at this;simp only[G,forall_const]at this;cases this
   subst M9;rw[u]at hm;simp at hm;rw[hm])
  have pZ:=M5 (kk:=kk) (x:=x) z G (F dd A.perm);have Q:=M4 (kk:=kk) (x:=x) (F es (.refl _));have Na:∀l:List (AV×AV),(l.map (pz kk x)).map (·.1)=l.map (·.1):=λl=>by
   rw[List.map_map];refine aKW λe _=>?_;simp only[Function.comp,pz];split<;>rfl
  have BI:(arr.modify j λe=>{ e with key:=c,val:=v }).toList.map (·.born)=arr.toList.map (·.born):=by
   apply List.ext_getElem?;intro i;simp only[List.getElem?_map,M6];split
   ·cases arr.toList[i]?<;>rfl
   ·rfl
  have:=h.H5 (n':=n) (es2:=jv es kk x) (es2':=dd.set j (kk,x)) (arr':=arr.modify j λe=>{ e with key:=c,val:=v }) ae A (aKE _)
   (by rw[pZ,Q];exact A.perm.map _) (by simp[A.len]) (λi e m he hm=>by
    rw[M6]at hm;rw[aKO]at he;by_cases jA:j=i
    ·subst jA;simp only[if_true,u,Option.map_some,Option.some.injEq]at hm;have C:j<dd.length:=(aKC.1 z).1;simp only[if_true,C,Option.some.injEq]at he;subst he hm;exact⟨r,Vi f,ah,J⟩
    ·simp only[jA,if_false]at he hm;exact A.at_ i e m he hm)
   (aol A.born BI)
   (λm hm=>by
    have:m.born∈(arr.modify j λe=>{ e with key:=c,val:=v }).toList.map (·.born):=aKP.2 ⟨m,hm,rfl⟩;rw[BI]at this;obtain⟨m0,R,d⟩:=aKP.1 this;rw[<-d];exact A.lt m0 R)
   (by
    have d:(es.map (·.1)).Pairwise λx y=>dS x y=false:=aKR.2 A.uniq;rw[Q];rw[<-Na es]at d;exact aKR.1 d)
   (λe he=>by
    rw[Q]at he;obtain⟨e0,R,rfl⟩:=aKP.1 he;have:=A.fit e0 R;simp only[pz];split<;>exact this)
   (λ_ m hm=>by
    obtain⟨i,al,uC⟩:=aKI hm;have d:(arr.modify j λe=>{ e with key:=c,val:=v }).toList[i]?=some m:=by rw[aKK al,uC]
    rw[M6]at d;split at d
    ·grind
    ·exact⟨m,aKF d,rfl,rfl⟩)
  simp only[pr,X];exact this
end
end
section
variable {P:Program}{gl:cQ}{N:Nat}{g g':bD}{s s':au}{a:Act}{w w':World}{o:Oper}{γ fm:fA}
variable {ks:List Nat}{m k:aL}
theorem aor{v:aL}(h:Rel P gl N g s a w)(f:Ew P o ks m k v=true)(he:aJ gl s (.qc ks m k v)=some s'):eu P gl N o g a w s':=by
 simp only[Ew,aKB,beq_iff_eq]at f;obtain⟨hd,c⟩:=f;split at c
 ·rename_i t E F G aE;simp only[aKB]at c;obtain⟨⟨⟨hm,hk⟩,j⟩,c⟩:=c;split at c
  ·rename_i H J l;simp only[aJ]at he;split at he
   ·rename_i id K x p q r;split at he
    ·rename_i n es u;split at he
     ·rename_i d;simp only[aKB]at d;simp at he;subst he;obtain⟨b,i,y⟩:=h.heap _ _ u;obtain⟨arr,dd,A⟩:=y.at d.2;obtain⟨L,e,z⟩:=(dk h hm p).vJ;rw[i]at e;simp at e;subst e;obtain⟨w',B,C,D⟩:=Vj h i A l c d.1 (dk h hk q) (dk h j r).a1 (λ_ _ _=>cY.gG (cY.a1 x));refine⟨undef,w',g,.inr ⟨?_,rfl⟩,C,?_⟩
      ·simp only[execOp,aE,z,Sem.run_bind,B,Result.andThen_ok,Sem.run_pure]
      ·rw[hd];exact D
     ·cases he
    ·cases he
   ·cases he
  ·cases c
 ·cases c
def Nb(P:Program)(o:Oper)(ks:List Nat)(m k:aL)(v:Nat):Bool:=Ew P o ks m k (.t v)
theorem aos{v:Nat}(h:Rel P gl N g s a w)(af:Nb P o ks m k v=true)(he:aJ gl s (.q5 ks m k v)=some s'):eu P gl N o g a w s':=by
 simp only[Nb,Ew,aKB,beq_iff_eq]at af;obtain⟨hd,i⟩:=af;split at i
 ·rename_i t B k' c6 aE;simp only[aKB]at i;obtain⟨⟨⟨hm,hk⟩,aq⟩,i⟩:=i;have ey:c6=.tmp v:=by unfold dJ at aq;split at aq<;>simp_all
  subst ey;split at i
  ·rename_i eM hP hu;simp only[aJ]at he;split at he
   ·rename_i id f e sz xs aH aR W;split at he
    ·rename_i n es bW;split at he
     ·rename_i c;simp only[aKB]at c;obtain⟨b,bT,b8⟩:=h.heap _ _ bW;obtain⟨arr,dd,A⟩:=b8.at c.2;obtain⟨b5,X,av⟩:=(dk h hm aH).vJ;rw[bT]at X;simp at X;subst X;have p:=dk h hk aR;obtain⟨an,a6⟩:=h.strip W;obtain⟨u,aP,aV,Y⟩:=h.env _ _ W;have nZ:=HZ s v sz xs
      -- the owner that the entry names
      have BI:∃born,(hl es f=none->born=n)/\∀(j:Nat)y m,hl es f=some y->dd[j]?=some (f,y)->arr.toList[j]?=some m->born=m.born:=by
       obtain⟨_,F⟩:=A.find i c.1 p;obtain⟨_,Z⟩:=A.once c.1 p;have G:dS f f=true:=kt.self c.1 p;rcases F with⟨_,O,_⟩|⟨j,C,y,_,H,_,l,Q,_⟩
       ·simp_all
       ·refine⟨C.born,(λh=>by rw[Q]at h;cases h),λd hy B a7 D hm=>?_⟩;have M9:d=j:=by
         have J:=Z dd A.perm;rcases aKN d j with q|he|q
         ·have:=aKD.1 J d j (aKC.1 D).1 (aKC.1 l).1 q;rw[(aKC.1 D).2,(aKC.1 l).2]at this;simp only[G,forall_const]at this;cases this
         ·exact he
         ·have:=aKD.1 J j d (aKC.1 l).1 (aKC.1 D).1 q;rw[(aKC.1 D).2,(aKC.1 l).2]at this;simp only[G,forall_const]at this;cases this
        subst M9;rw[H]at hm;simp at hm;rw[hm]
      obtain⟨born,ed,dX⟩:=BI;have Mv:∃g',eL g w g' w/\Rel P gl N g' { s with env:=s.env.ins v (.v (.list none sz xs)) } a w/\fC P g' w (.oc id born) (.list (some e) sz xs) u:=by
       cases ae:u.ownBlock with
       |none=>exact⟨g,eL.refl _ _,a6,Y.free ae⟩|some b =>
        obtain⟨oQ,z,vs,m1,m2,m3,m4,m5,m6,Ef,m7,m8⟩:=Y e sz xs rfl;obtain⟨E,R⟩:=a6.pass (.var v) (.oc id born) nZ be (m8 b ae).1 be;exact⟨_,E,R,Y.pass b ae⟩
      obtain⟨g',E,R,fP⟩:=Mv;obtain⟨en,s1,s2⟩:=R.heap _ _ bW;have:en=b:=by have:=E.cg _ _ bT;rw[s1]at this;simpa using this
      subst this;obtain⟨sh,K,S⟩:=s2.at c.2;have zE:sh=arr:=by have:=S.l6;rw[A.l6]at this;simp at this;exact this.symm
      subst zE;have Vk:=p.mono E.toGhLe
      -- the two ways to lay the entries side by side agree at this key
      have aNM:∀(j:Nat)y m,hl es f=some y->K[j]?=some (f,y)->sh.toList[j]?=some m->born=m.born:=by
       intro j y m a7 D L;obtain⟨_,F⟩:=A.find i c.1 p;rcases F with⟨_,O,_⟩|⟨r,C,da,_,H,f4,l,Q,f7⟩
       ·rw[O]at a7;cases a7
       ·have si:=dX r da C Q l H;have aw:=S.at_ j _ _ D L;have xY:m.key=C.key:=by
         have:=(xV c.1 c.1 (bn.key (γ:=g'.γ) c.1 aw.1) (bn.key (γ:=g.γ) c.1 p)).2.1 rfl;rw[this,f4]
        -- keys of the block differ
        have Vl:r<dd.length:=(aKC.1 l).1;have cG:∀d B,sh.toList[d]?=some B->B.key=C.key->d=r:=by
         intro d B re kq;have T:d<dd.length:=by rw[A.len];exact(aKC.1 re).1
         have nu:=A.at_ d dd[d] B (by simp[T]) re;have Vm:=A.fit _ (A.perm.mem_iff.1 (aKQ T));have Vn:f=dd[d].1:=(xV c.1 Vm (bn.key (γ:=g.γ) c.1 p) (bn.key (γ:=g.γ) Vm nu.1)).2.2 (by rw[kq,f4]);have G:dS f f=true:=kt.self c.1 p;obtain⟨_,Z⟩:=A.once c.1 p;have J:=Z dd A.perm;rcases aKN d r with q|he|q
         ·have:=aKD.1 J d r T Vl q;rw[(aKC.1 l).2,<-Vn]at this;simp only[G,forall_const]at this;cases this
         ·exact he
         ·have:=aKD.1 J r d Vl T q;rw[(aKC.1 l).2,<-Vn]at this;simp only[G,forall_const]at this;cases this
        have:=cG j m L xY;subst this;rw[H]at L;simp at L;rw[si,L]
      obtain⟨w',t1,t2,t3⟩:=Vj (x:=.list (some e) sz xs) (v:=u) R s1 S hu i c.1 Vk (aV.mono E.toGhLe) (λaot c1 c2=>by
       have:aot=born:=by
        cases V:hl es f with
        |none=>rw[c1 V,ed V]|some y =>
         obtain⟨_,F⟩:=S.find i c.1 Vk;rcases F with⟨_,O,_⟩|⟨r,C,da,_,H,f4,l,Q,f7⟩
         ·rw[O]at V;cases V
         ·grind
       subst this;exact fP)
      have ny:({ s with heap:=s.heap.set id (pr n es f (.list (some e) sz xs)) }:au).put v (.list none sz xs)=some { env:=s.env.ins v (.v (.list none sz xs)),heap:=s.heap.set id (pr n es f (.list (some e) sz xs)) }:=by
       simp[au.put,e9,W]
      rw[ny]at he;simp at he;subst he;refine⟨undef,w',g',.inr ⟨?_,rfl⟩,E.trans t2,?_⟩
      ·have ef:a.eval (.tmp v)=u:=by simp[Act.eval,aP]
       simp only[execOp,aE,av,ef,Sem.run_bind,t1,Result.andThen_ok,Sem.run_pure]
      ·rw[hd];exact t3
     ·cases he
    ·cases he
   ·cases he
  ·cases i
 ·cases i
def Nc(P:Program)(N:Nat)(o:Oper)(ks:List Nat)(d:Option Nat)(m k:aL):Bool:=(match d with|some d=>cZ N o d|none=>o.dst==none) &&
 (match th o.op with
  |some (.delete,[fT,k'],t::_)=>dJ fT m&&dJ k' k&&(match P.underlying t with|some (.map eM _)=>tp P eM ks|_=>false)|_=>false)
variable {t ty eM hP:TypeId}{bE:List TypeId}{b n j:Nat}{arr:Array MapEntry}
theorem aou{k x:Value}(c:P.underlying t=some (.map eM hP))(ae:w.heap[b]?=some (.map arr n))
  (d:∀e,(Instr.checkKey e 10000 eM k).run P w=.ok () w)(f:(Instr.findKey eM k arr.toList).run P w=.ok (some (j,x)) w) :
  (Builtin.delete_ (t::bE).toArray ty #[.map (some b),k]).run P w=.ok (.tuple #[]) (mJ w b (arr.eraseIdxIfInBounds j) n):=by
 have h:((t::bE).toArray[0]?:Option TypeId)=some t:=by simp
 simp only[Builtin.delete_,h,List.getElem?_toArray,List.getElem?_cons_zero,List.getElem?_cons_succ,Sem.run_bind,run_underlying c,Result.andThen_ok,MapKept.run_getObj_map ae,d,f,MapKept.run_setObj_map _ ae,Sem.run_pure,mJ]
theorem aov{k:Value}(c:P.underlying t=some (.map eM hP))(ae:w.heap[b]?=some (.map arr n))
  (d:∀e,(Instr.checkKey e 10000 eM k).run P w=.ok () w)(f:(Instr.findKey eM k arr.toList).run P w=.ok none w) :
  (Builtin.delete_ (t::bE).toArray ty #[.map (some b),k]).run P w=.ok (.tuple #[]) (mJ w b arr n):=by
 have h:((t::bE).toArray[0]?:Option TypeId)=some t:=by simp
 simp only[Builtin.delete_,h,List.getElem?_toArray,List.getElem?_cons_zero,List.getElem?_cons_succ,Sem.run_bind,run_underlying c,Result.andThen_ok,MapKept.run_getObj_map ae,d,f,MapKept.run_setObj_map _ ae,Sem.run_pure,mJ]
variable {kk:AV}{es:List (AV×AV)}
theorem filter_none(h:∀e∈es,dS kk e.1=false):es.filter (λe=>!dS kk e.1)=es:=List.filter_eq_self.2 λe he=>by simp[h e he]
variable {id:Nat}{dd:List (AV×AV)}{mK:Value}
theorem aow(h:Rel P gl N g s a w)(ae:g.cg id=some b)(A:kt P g w id b n es ks arr dd)(r:P.underlying t=some (.map eM hP))(hk:tp P eM ks=true)
  (d:fE ks kk=true)(f:bn g kk mK)(ty:TypeId)(bE:List TypeId) :
  ∃w',(Builtin.delete_ (t::bE).toArray ty #[.map (some b),mK]).run P w=.ok (.tuple #[]) w'/\eL g w g w'/\Rel P gl N g { s with heap:=s.heap.set id (.map n (vB es kk)) } a w':=by
 obtain⟨u,z⟩:=A.find hk d f;obtain⟨G,v⟩:=A.once d f;have B:dS kk kk=true:=kt.self d f;have c:=Vh (kk:=kk) (v es (.refl _));rcases z with⟨l,H,x,C⟩|⟨j,J,y,l,x,C,D,K,L⟩
 ·refine⟨_,aov r A.l6 u l,?_⟩;rw[c,filter_none x];exact h.H5 ae A (aKE _) A.perm A.len A.at_ A.born A.lt A.uniq A.fit (λ_ m hm=>⟨m,hm,rfl,rfl⟩)
 ·refine⟨_,aou r A.l6 u l,?_⟩;have E:j<arr.size:=by grind
  have p:(arr.eraseIdxIfInBounds j).toList=arr.toList.eraseIdx j:=by
   simp[Array.eraseIdxIfInBounds,E]
  have q:List.Sublist (arr.eraseIdxIfInBounds j).toList arr.toList:=by rw[p];exact List.eraseIdx_sublist _ _
  have F:=erase_filter (kk:=kk) (j:=j) D B (v dd A.perm);have:=h.H5 (n':=n) (es2:=vB es kk) (es2':=dd.eraseIdx j) (arr':=arr.eraseIdxIfInBounds j) ae A (aKE _)
   (by rw[F,c];exact A.perm.filter _)
   (by rw[p];simp only[List.length_eraseIdx,A.len])
   (λi e m he hm=>by
    rw[p]at hm;rw[List.getElem?_eraseIdx]at he hm;split at he
    ·rename_i al;rw[if_pos al]at hm;exact A.at_ _ e m he hm
    ·rename_i al;rw[if_neg al]at hm;exact A.at_ _ e m he hm)
   (A.born.sublist q) (λm hm=>A.lt m (q.subset hm))
   (by rw[c];exact A.uniq.sublist List.filter_sublist)
   (λe he=>by rw[c]at he;exact A.fit e (List.mem_filter.1 he).1)
   (λ_ m hm=>⟨m,q.subset hm,rfl,rfl⟩)
  exact this
theorem aox{d:Option Nat}(h:Rel P gl N g s a w)(l:Nc P N o ks d m k=true)(he:aJ gl s (.qd ks d m k)=some s'):eu P gl N o g a w s':=by
 simp only[Nc,aKB]at l;obtain⟨hd,c⟩:=l;split at c
 ·rename_i E F t bE e;simp only[aKB]at c;obtain⟨⟨hm,hk⟩,c⟩:=c;split at c
  ·rename_i eM hP r;simp only[aJ]at he;split at he
   ·rename_i id kk u v;split at he
    ·rename_i n es x;split at he
     ·rename_i f;simp only[aKB]at f;obtain⟨b,p,y⟩:=h.heap _ _ x;obtain⟨arr,dd,A⟩:=y.at f.2;obtain⟨G,i,z⟩:=(dk h hm u).vJ;rw[p]at i;simp at i;subst i;obtain⟨w',B,C,q⟩:=aow h p A r c f.1 (dk h hk v) o.type bE;refine⟨.tuple #[],w',g,.inl ?_,C,?_⟩
      ·obtain⟨H,D⟩:=vI (o:=o) e rfl a.eval;rw[D];simp only[aKG,aKM,builtin,z,Sem.run_bind,B,Result.andThen_ok,Sem.run_pure]
      ·cases d with
       |none =>
        simp[au.fO]at he;subst he;simp only[beq_iff_eq]at hd;rw[hd];exact q
       |some d =>
        simp only[cZ,aKB,beq_iff_eq,decide_eq_true_eq]at hd;rw[hd.1];exact q.put he hd.2 (.bg _ [] .nil) (.mE λ_ _ _ h=>f9)
     ·cases he
    ·cases he
   ·cases he
  ·cases c
 ·cases c
def Nf(P:Program)(N:Nat)(o:Oper)(ks:List Nat)(d:Nat)(m k:aL)(zero:AV):Bool:=cZ N o d &&
 (match o.op,zero with
  |.lookup t fT k' false,.list (some e) sz []=>dJ fT m&&dJ k' k&&ko P e sz &&
   (match P.underlying t with|some (.map eM hP)=>tp P eM ks&&(match P.info? hP with|some i=>(match i.zero with|some (.slice none 0 0)=>true|_=>false)|none=>false)|_=>false)
  |_,_=>false)
variable {d:Nat}
theorem Rel.aoz(h:Rel P gl N g s a w)(ae:g.cg id=some b)(A:kt P g w id b n es ks arr dd)
  (L:fE ks kk=true)(O:bn g kk mK){e sz:Nat}{xs:List AV}{q:MapEntry}(Q:dd[j]?=some (kk,.list (some e) sz xs))(hm:arr.toList[j]?=some q)(hd:d<N)
  (ar:({ s with heap:=s.heap.set id (.map n (jv es kk (.list none sz xs))) }:au).put d (.list (some e) sz xs)=some s') :
  ∃g',eL g w g' w/\Rel P gl N g' s' (a.put (some d) q.val) w:=by
 obtain⟨M7,R⟩:=A.once L O;have mL:dS kk kk=true:=kt.self L O;obtain⟨c1,c2,D,E⟩:=A.at_ j _ _ Q hm;have pZ:=M5 (kk:=kk) (x:=.list none sz xs) Q mL (R dd A.perm);have F:=M4 (kk:=kk) (x:=.list none sz xs) (R es (.refl _))
 -- the state without what is owned
 have S:∀g',GhLe g g'->(∀c,g.bO c≠.oc id q.born->g'.bO c=g.bO c)->(∀c,g'.bO c≠.none->g.bO c≠.none)->g'.γ=g.γ->g'.cg=g.cg ->
   Rel P gl N g' { s with heap:=s.heap.set id (.map n (jv es kk (.list none sz xs))) } a w:=by
  intro g' f B Ng G T;have hk:Kept g w g' w λo=>o≠.oc id q.born:=λc H=>⟨B c H,rfl,λo=>by rw[G]⟩;refine⟨h.sorted,h.size,h.defers,λt e he=>(h.env t e he).kept f hk be be be,λgm bM l=>?_,λb off v aq=>h.fI b off v (by rw[<-G];exact aq),λc H=>h.own c (Ng c H),λn x ah=>by rw[G];exact h.hf n x ah,λi b al=>by rw[T]at al;simpa using h.ga i b al⟩;simp only at l;rw[aKO]at l;split at l
  ·rename_i r;subst r;split at l
   ·simp at l;subst l;refine⟨b,by rw[T];exact ae,arr,A.l6,by rw[B b (by rw[A.own];simp)];exact A.own,⟨dd.set j (kk,.list none sz xs),by rw[pZ,F];exact A.perm.map _,by simp[A.len],λi r m he u=>?_⟩,A.born,A.lt,?_,ks,?_⟩
    ·rw[aKO]at he;split at he
     ·rename_i J;subst J;split at he
      ·simp at he;subst he;rw[hm]at u;simp at u;subst u;exact⟨c1.mono f,c2,(D.a1).mono f,cY.gG (cY.none _ _)⟩
      ·cases he
     ·rename_i J;obtain⟨cF,cO,er,eo⟩:=A.at_ i r m he u;refine⟨cF.mono f,cO,er.mono f,eo.kept f hk ?_⟩;have cG:m.born≠q.born:=by
       have V:=(aKC.1 u).1;have W:=(aKC.1 hm).1;have X:=(aKC.1 u).2;have Y:=(aKC.1 hm).2;rcases Nat.lt_or_gt_of_ne J with K|K
       ·have:=aKD.1 A.born j i W V K;rw[X,Y]at this;omega
       ·have:=aKD.1 A.born i j V W K;rw[X,Y]at this;omega
      simp[cG]
    ·have Na:(es.map (pz kk (.list none sz xs))).map (·.1)=es.map (·.1):=by
      rw[List.map_map];refine aKW λe _=>?_;simp only[Function.comp,pz];split<;>rfl
     have p:(es.map (·.1)).Pairwise λx y=>dS x y=false:=aKR.2 A.uniq;rw[F];rw[<-Na]at p;exact aKR.1 p
    ·intro r Z;rw[F]at Z;obtain⟨aH,p,rfl⟩:=aKP.1 Z;have:=A.fit aH p;simp only[pz];split<;>exact this
   ·cases l
  ·rename_i cG;exact(h.heap gm bM l).kept f hk be (λi=>by simp only[ne_eq,eW.oc.injEq,not_and];omega)
 cases C:q.val.ownBlock with
 |none =>
  have p:=S g ⟨λ_ _ _ h=>h,λ_ _ h=>h⟩ (λ_ _=>rfl) (λ_ h=>h) rfl rfl;exact⟨g,eL.refl _ _,p.put ar hd D (E.free C)⟩
 |some c =>
  obtain⟨i,z,vs,m1,m2,m3,m4,m5,m6,Ef,m7,m8⟩:=E e sz xs rfl;let g':bD:={ g with bO:=λk=>if k=c then .var d else g.bO k }
  have f:GhLe g g':=⟨λ_ _ _ h=>h,λ_ _ h=>h⟩;have B:∀k,g.bO k≠.oc id q.born->g'.bO k=g.bO k:=λk hk=>by
   have:k≠c:=by rintro rfl;exact hk (m8 k C).1
   simp[g',this]
  have p:=S g' f B (λk hk=>by
   by_cases r:k=c
   ·subst r;rw[(m8 k C).1];simp
   ·simpa[g',r]using hk) rfl rfl
  refine⟨g',⟨f,λk hk=>⟨by rw[B k (by rw[hk];simp)];exact hk,rfl,λ_=>rfl⟩,aKE _,rfl,rfl⟩,p.put ar hd (D.mono f) (E.pass c C)⟩
theorem aoA{zero:AV}(h:Rel P gl N g s a w)(u:Nf P N o ks d m k zero=true)(he:aJ gl s (.iN ks d m k zero)=some s'):eu P gl N o g a w s':=by
 simp only[Nf,aKB]at u;obtain⟨hd,c⟩:=u;split at c
 ·rename_i t V W X Y aE;simp only[aKB]at c;obtain⟨⟨⟨hm,hk⟩,D⟩,c⟩:=c;split at c
  ·rename_i eM hP v;simp only[aKB]at c;obtain⟨E,f⟩:=c;split at f
   ·rename_i i al;split at f
    ·rename_i F;simp only[cZ,aKB,beq_iff_eq,decide_eq_true_eq]at hd;simp only[aJ]at he;split at he
     ·rename_i id kk G H;split at he
      ·rename_i Z es J;split at he
       ·rename_i l;simp only[aKB]at l;obtain⟨b,y,K⟩:=h.heap _ _ J;obtain⟨arr,dd,A⟩:=K.at l.2;obtain⟨b5,p,z⟩:=(dk h hm G).vJ;rw[y]at p;simp at p;subst p;have B:=dk h hk H;obtain⟨C,L⟩:=A.find E l.1 B;rcases L with⟨q,r,_⟩|⟨j,O,x,q,r,f3,Q,R,f6⟩
        ·rw[r]at he;refine⟨.slice none 0 0,w,g,.inl ?_,eL.refl _ _,?_⟩
         ·simp only[execOp,aE,z,Sem.run_bind,Vd v A.l6 C q al F,Result.andThen_ok,Sem.run_pure,aKH,if_false]
         ·rw[hd.1];exact h.put he hd.2 (.own _ _ _ _ (.kn _ _ _ be)) (D1 D _ _ _)
        ·rw[R]at he;split at he
         ·rename_i e sz xs ah;simp at ah;subst ah;obtain⟨g',S,T⟩:=h.aoz y A l.1 B Q r hd.2 he;refine⟨O.val,w,g',.inl ?_,S,?_⟩
          ·simp only[execOp,aE,z,Sem.run_bind,Vc v A.l6 C q,Result.andThen_ok,Sem.run_pure,aKH,if_false]
          ·rw[hd.1];exact T
         ·cases he
         ·rename_i ah;simp at ah
       ·cases he
      ·cases he
     ·cases he
    ·cases f
   ·cases f
  ·cases c
 ·cases c
end
open Go Go.Maps Go.ChangeMaps
section
variable {P:Program}{gl:cQ}{N:Nat}{g g':bD}{s s':au}{a:Act}{w w':World}{o:Oper}{γ fm:fA}
theorem aoB{c d:AV}{u:Value}(b:(match c with|.str _|.int _ _|.bool _=>true|_=>false)=true)(hd:(match d with|.str _|.int _ _|.bool _=>true|_=>false)=true)(e:dr γ c u)(f:dr fm d u):c=d:=by
 cases c<;>simp at b<;>cases d<;>simp at hd<;>cases e<;>cases f<;>rfl
theorem Vp:∀{us:List Value}{xs ys:List AV},(xs.all λ|.str _|.int _ _|.bool _=>true|_=>false)=true->(ys.all λ|.str _|.int _ _|.bool _=>true|_=>false)=true->fX γ xs us->fX fm ys us->xs=ys
 |[],_,_,_,_,h1,b=>by cases h1;cases b;rfl|u::us,xs,ys,ah,e,h1,b=>by
  cases h1 with
  |cons c cs _ _ _ f h =>
   cases b with
   |cons d hz _ _ _ i j =>
    rw[List.all_cons,aKB]at ah e;rw[aoB ah.1 e.1 f i,Vp ah.2 e.2 h j]
variable {x y:AV}{v:Value}
theorem Vq(ah:ia x=true)(d:ia y=true)(c:dr γ x v)(b:dr fm y v):x=y:=by
 cases x<;>simp only[ia,aKH]at ah<;>cases y<;>simp only[ia,aKH]at d
 case agg.agg cs hz =>
  cases c with
  |agg _ us p=>
   generalize e:Value.agg us.toArray=v at b;cases b with
   |agg _ vs q =>
    have:us=vs:=by simpa using e
    subst this;rw[Vp ah d p q]
 all_goals first|(cases c;cases b;rfl)|(cases c;cases b)
theorem Vr:∀{cs:List AV},(cs.all λ|.str _|.int _ _|.bool _=>true|_=>false)=true->eqs cs cs=some true
 |[],_=>rfl|c::cs,h=>by
  rw[List.all_cons,aKB]at h;have:=Vr h.2;cases c<;>simp at h<;>simp[eqs,q7,this]
theorem Vs:∀{cs hz:List AV},eqs cs hz=some true->cs=hz
 |[],[],_=>rfl|[],_::_,h=>by simp[eqs]at h|_::_,[],h=>by simp[eqs]at h|c::cs,d::hz,h=>by
  simp only[eqs]at h;split at h
  ·rename_i p q ar b;simp only[Option.some.injEq,aKB]at h;rw[h.2]at b;have:=Vs b;subst this;rw[h.1]at ar;have:c=d:=by
    cases c<;>cases d<;>simp[q7]at ar
    ·rw[ar]
    ·rw[ar.1,ar.2]
    ·rw[ar]
   rw[this]
  ·cases h
theorem Nh(ah:ia x=true)(b:ia y=true)(h:dS x y=true):x=y:=by
 cases x<;>simp only[ia,aKH]at ah<;>cases y<;>simp only[ia,aKH]at b<;>simp only[dS,aKH]at h
 ·grind
 ·simp only[beq_iff_eq]at h;rw[h]
 ·simp only[beq_iff_eq]at h;rw[Vs h]
theorem BM(h:ia x=true):dS x x=true:=by
 cases x<;>simp only[ia,aKH]at h
 ·simp[dS]
 ·simp[dS]
 ·simp only[dS,Vr h];rfl
theorem bn.ia(ah:AM.ia x=true)(h:bn g x v):dr γ x v:=by
 cases x<;>simp only[AM.ia,aKH]at ah
 ·have:=h.kp;subst this;exact .int _ _
 ·obtain⟨rfl,f⟩:=h.mG;exact .str _ f
 ·rename_i cs;obtain⟨ws,rfl,d,e⟩:=h.oP;refine .agg _ _ ?_;clear h;induction ws generalizing cs with
  |nil=>cases d;exact .nil|cons w ws ih =>
   cases d with
   |cons c cs _ _ b i =>
    rw[List.all_cons,aKB]at ah;refine .cons _ _ _ _ (e w be) ?_ (ih cs ah.2 i (λx ah=>e x (by simp[ah])));cases c<;>simp at ah
    ·have:=b.oO;subst this;exact .bool _
    ·have:=b.kp;subst this;exact .int _ _
    ·obtain⟨rfl,h⟩:=b.mG;exact .str _ h
def Ex(P:Program)(N:Nat)(o:Oper)(d:Nat)(m:aL):Bool:=cZ N o d &&
 (match o.op with|.range t fT=>dJ fT m&&(match P.underlying t with|some (.map _ _)=>true|_=>false)|_=>false)
variable {t eM hP:TypeId}
theorem run_range_map{b n:Nat}{arr:Array MapEntry}(c:P.underlying t=some (.map eM hP))(ae:w.heap[b]?=some (.map arr n)) :
  (Instr.range t (.map (some b))).run P w=.ok (ptrTo w.heap.size 0) (w.alloc (.mapIter (some b) n #[] n)):=by
 simp only[Instr.range,Sem.run_bind,run_underlying c,Result.andThen_ok,MapKept.run_getObj_map ae,Sem.run_pure,newObj,Sem.run,ptrTo];rfl
theorem aoC(b:P.underlying t=some (.map eM hP)):(Instr.range t (.map none)).run P w=.ok (ptrTo w.heap.size 0) (w.alloc (.mapIter none 0 #[] 0)):=by
 simp only[Instr.range,Sem.run_bind,run_underlying b,Result.andThen_ok,Sem.run_pure,newObj,Sem.run,ptrTo];rfl
variable {d:Nat}
theorem aoD{m:aL}(h:Rel P gl N g s a w)(S:Ex P N o d m=true)(he:aJ gl s (.r6 d m)=some s'):eu P gl N o g a w s':=by
 simp only[Ex,aKB]at S;obtain⟨hd,c⟩:=S;split at c
 ·rename_i t fT aE;simp only[aKB]at c;obtain⟨hm,c⟩:=c;split at c
  ·rename_i eM hP T;simp only[cZ,aKB,beq_iff_eq,decide_eq_true_eq]at hd;simp only[aJ]at he;split at he
   ·rename_i id z;split at he
    ·rename_i n es bW;obtain⟨b,B,arr,l,C,⟨dd,p,gP,V⟩,W,X,xS,ks,f⟩:=h.heap _ _ bW;obtain⟨b5,D,av⟩:=(dk h hm z).vJ;rw[B]at D;simp at D;subst D;have A:kt P g w id b n es ks arr dd:=⟨l,C,p,gP,V,W,X,xS,f⟩;have Y:b<w.heap.size:=h.own b (by rw[C];simp);obtain⟨g',E,F,G⟩:=h.MX (.mapIter (some b) n #[] n) (.iter (some id) n []) (λg' r Z H=>by
      have J:g'.bO b=.bM id:=by rw[r];simp[bD.jB,show b≠w.heap.size by omega,C]
      have tj:=h.ga id b B;refine⟨w.heap.size,_,H,heap_alloc_new w _,by rw[r];simp[bD.jB],Z.cg _ _ B,J,rfl,rfl,?_,arr,n,by rw[heap_alloc_old w _ (h:=Y)];exact l,aKE _⟩;have K:∀x∈List.zipWith (λ(e:AV×AV)(m:MapEntry)=>(e.1,m.born)) dd arr.toList,∃(i:Nat)(e:AV×AV)(m:MapEntry),dd[i]?=some e/\arr.toList[i]?=some m/\x=(e.1,m.born):=by
       intro x ah;obtain⟨i,al,L⟩:=aKI ah;have n2:=al;simp only[List.length_zipWith]at n2;refine⟨i,dd[i]' am,arr.toList[i]' am,be,aKK _,?_⟩;rw[<-L];simp
      refine⟨List.zipWith (λ(e:AV×AV)(m:MapEntry)=>(e.1,m.born)) dd arr.toList,?_,?_,be,be,?_⟩
      ·rw[aKD];intro i j al a8 jA;simp only[List.length_zipWith]at al a8;simp only[List.getElem_zipWith];refine⟨?_,?_⟩
       ·have cG:dd.Pairwise λx y=>x.1≠y.1:=(p.symm.pairwise_iff (λ{x y}(h:x.1≠y.1)=>h.symm)).1 A.ne;have aI:=aKD.1 cG i j am am jA;cases bh:dS dd[i].1 dd[j].1 with
        |false=>rfl|true =>
         have O:=p.mem_iff.1 (aKQ (show i<dd.length by omega));have Q:=p.mem_iff.1 (aKQ (show j<dd.length by omega));obtain⟨_,m1,_,_,cF⟩:=A.vZ O;obtain⟨_,m2,_,_,cO⟩:=A.vZ Q;exact absurd ((Et (f _ O) (f _ Q) (bn.key (γ:=g.γ) (f _ O) cF.1) (bn.key (γ:=g.γ) (f _ Q) cO.1)).1 bh) aI
       ·have:=aKD.1 W i j am am jA;omega
      ·intro x ah;obtain⟨i,e,m,u,k,rfl⟩:=K x ah;exact⟨X m (aKF k),(V i e m u k).2.1⟩
      ·intro sh R m jf;rw[heap_alloc_old w _ (h:=Y),l]at R;simp at R;subst R;obtain⟨i,e,u,k,dT,fF⟩:=A.other jf;refine⟨e.1,?_,bn.ia fF.2.1 fF.1⟩;have iR:=(aKC.1 u).1;have oR:=(aKC.1 k).1;refine aKF (i:=i) ?_;rw[List.getElem?_zipWith,u,k])
     refine⟨ptrTo w.heap.size 0,_,g',.inl ?_,E,?_⟩
     ·simp only[execOp,aE,av,Sem.run_bind,run_range_map T l,Result.andThen_ok,Sem.run_pure]
     ·rw[hd.1];exact F.put he hd.2 (.ptr _ 0 _ G) (vM _ _).gG
    ·cases he
   ·rename_i z;have q:=(dk h hm z).L9;obtain⟨g',E,F,G⟩:=h.MX (.mapIter none 0 #[] 0) (.iter none 0 []) (λg' r Z H=>⟨w.heap.size,_,H,heap_alloc_new w _,by rw[r];simp[bD.jB],trivial⟩);refine⟨ptrTo w.heap.size 0,_,g',.inl ?_,E,?_⟩
    ·simp only[execOp,aE,q,Sem.run_bind,aoC T,Result.andThen_ok,Sem.run_pure]
    ·rw[hd.1];exact F.put he hd.2 (.ptr _ 0 _ G) (vM _ _).gG
   ·cases he
  ·cases c
 ·cases c
theorem Nl{k v:AV}:∀{es:List (AV×AV)},hl es k=some v->∃k',(k',v)∈es/\dS k k'=true
 |[],h=>by simp[hl]at h|(k',f)::r,h=>by
  simp only[hl]at h;split at h
  ·grind
  ·obtain⟨b,c,e⟩:=Nl h;exact⟨b,by simp[c],e⟩
def H8(N:Nat)(o:Oper)(d:Nat)(it:aL):Bool:=cZ N o d&&(match o.op with|.next sk false=>dJ sk it|_=>false)
def H9(N:Nat)(o:Oper)(d:Nat)(it:aL):Bool:=cZ N o d&&(match o.op with|.entry sk=>dJ sk it|_=>false)
variable {it:aL}
theorem Vt(h:Rel P gl N g s a w)(W:H9 N o d it=true)(he:aJ gl s (.oK d it)=some s') :
  ∃x v,cZ N o d=true/\s.put d x=some s'/\bn g x v/\cY x/\(execOp a.eval o).run P w=.ok (.value v) w:=by
 simp only[H9,aKB]at W;obtain⟨hd,j⟩:=W;split at j
 ·rename_i sk aE;simp only[aJ]at he;split at he
  ·rename_i id c;split at he
   ·rename_i l since seen bW;split at he
    ·rename_i n es k vE p;split at he
     ·rename_i aI;subst aI;obtain⟨v,aF,he⟩:=bind_some he;obtain⟨r,bM,aP,X,bP,q⟩:=h.heap _ _ bW;obtain⟨b5,u,t2⟩:=(dk h j c).tf;rw[aP]at u;simp at u;subst u;obtain⟨Y,m1,b,z,m3,⟨dd,m4,m5,m6⟩,m7,m8,m9,ks,B⟩:=h.heap _ _ vE;have A:kt P g w l Y n es ks b dd:=⟨z,m3,m4,m5,m6,m7,m8,m9,B⟩;cases bM<;>simp only[qf]at q;rename_i mp mM C last;cases mp with
      |none=>exact q.elim|some bu =>
       obtain⟨D,c2,rfl,rfl,rh,_⟩:=q;rw[m1]at D;simp at D;subst D;obtain⟨L,Z,E,eX,lA,pA⟩:=rh
       -- the last of what was seen
       have cG:seen≠[]:=by rintro rfl;simp at p
       have hlen:0<seen.length:=List.length_pos_iff.2 cG;have qi:seen[seen.length-1]?=some k:=by grind
       have F:∃bI,C.toList[seen.length-1]?=some bI:=by grind
       obtain⟨bI,G⟩:=F;have Vv:=lA _ _ _ qi G
       -- the entry at that key
       have sf:=Nl aF;obtain⟨k',hX,H⟩:=sf;obtain⟨i,m,J,e,f⟩:=A.vZ hX;obtain⟨K,O,Nn⟩:=pA _ z m (aKF e);have lx:K=k':=Vq (E _ O).2 f.2.1 Nn (bn.ia (γ:=λ_ _=>none) f.2.1 f.1);subst lx
       -- one pair of the list
       have Q:(k,bI)=(K,m.born):=by
        obtain⟨R,J,c⟩:=aKI Vv;obtain⟨S,e,T⟩:=aKI O;rcases aKN R S with V|rfl|V
        ·have:=(aKD.1 Z R S J e V).1;rw[c,T]at this;simp only at this;rw[H]at this;cases this
        ·rw[<-c,<-T]
        ·have:=(aKD.1 Z S R e J V).1;rw[c,T]at this;simp only at this;have fe:k=K:=Nh (E _ Vv).2 (E _ O).2 H;subst fe;have nz:dS k k=true:=H;rw[nz]at this;cases this
       obtain⟨rfl,rfl⟩:=Prod.mk.inj Q;have No:C=(C.pop).push m.born:=by grind
       refine⟨_,_,hd,he,.bg _ [m.key,m.val] (.cons _ _ _ _ f.1 (.cons _ _ _ _ f.2.2.1.a1 .nil)),(λ_ _ _ h=>f9),?_⟩;rw[No]at X;have pB:(b.toList.map (·.born)).Nodup:=by grind
       have:=run_entry_at (P:=P) w r Y _ _ b _ m X z (aKF e) pB;simp only[execOp,aE,t2,ptrTo,Sem.run_bind,this,Result.andThen_ok,Sem.run_pure]
     ·cases he
    ·cases he
   ·cases he
  ·cases he
 ·cases j
theorem aoL(h:Rel P gl N g s a w)(b:H9 N o d it=true)(he:aJ gl s (.oK d it)=some s'):eu P gl N o g a w s':=by
 obtain⟨x,v,c,e,f,i,j⟩:=Vt h b he;exact .value h c e j f i
theorem Vw{sk:Operand}{id since:Nat}{Vx:Option Nat}{oV:List AV}{es:List (AV×AV)}(h:Rel P gl N g s a w)(aE:o.op=.next sk false)(pC:dJ sk it=true)
  (u:br gl s.env it=some x)(f:r9 s.heap x=some (id,Vx,since,oV,es)) :
  (es=[]/\(execOp a.eval o).run P w=.ok (.value (.tuple #[.bool false])) w) \/
  ∃e∈es,∃w' v,(execOp a.eval o).run P w=.ok (.value v) w'/\eL g w g w'/\bn g (.bg [.bool true,e.1,e.2.a1]) v/\Rel P gl N g { s with heap:=s.heap.set id (.iter Vx since (oV++[e.1])) } a w'/\∀r,g.cg id=some r->w.grownBy w' (some r):=by
 have cT:∀v r w',(a.eval sk)=v->(Instr.next v false o.type).run P w=.ok r w'->(execOp a.eval o).run P w=.ok (.value r) w':=by
  intro v r w' aq B;simp only[execOp,aE,aq,Sem.run_bind,B,Result.andThen_ok,Sem.run_pure]
 unfold r9 at f;split at f
 ·rename_i BN;obtain⟨r,Q,rj⟩:=(dk h pC u).tf;split at f
  ·rename_i aoM R bW;simp at f;obtain⟨rfl,rfl,rfl,rfl,rfl⟩:=f;obtain⟨r',bM,E,C,bP,H⟩:=h.heap _ _ bW;rw[Q]at E;simp at E;subst E;cases bM<;>simp only[qf]at H;rename_i mp mM c last;cases mp with
   |some bu=>exact H.elim|none =>
    refine .inl ⟨rfl,cT _ _ _ rj ?_⟩;simp[Instr.next,ptrTo,getObj,Sem.run,C]
  ·rename_i S aoM R bW;split at f
   ·rename_i n aoN vE;split at f
    ·rename_i aI;simp at f;obtain⟨rfl,rfl,rfl,rfl,rfl⟩:=f;subst aI;obtain⟨r',bM,E,C,bP,H⟩:=h.heap _ _ bW;rw[Q]at E;simp at E;subst E;obtain⟨bu,m1,arr,T,m3,⟨dd,m4,m5,m6⟩,m7,m8,m9,ks,m10⟩:=h.heap _ _ vE;have A:kt P g w S bu n aoN ks arr dd:=⟨T,m3,m4,m5,m6,m7,m8,m9,m10⟩;cases bM<;>simp only[qf]at H;rename_i mp mM c last;cases mp with
     |none=>exact H.elim|some oW =>
      obtain⟨c1,c2,rfl,rfl,rh,Ia⟩:=H;rw[m1]at c1;simp at c1;subst c1;obtain⟨L,V,W,eX,lA,pA⟩:=rh;have aoO:∀k i j,(k,i)∈L->(k,j)∈L->i=j:=by
       intro k i j l p;obtain⟨F,X,u⟩:=aKI l;obtain⟨G,Y,q⟩:=aKI p;rcases aKN F G with z|rfl|z
       ·have:=(aKD.1 V F G X Y z).1;rw[u,q]at this;simp only[BM (W _ l).2]at this;cases this
       ·rw[u]at q;simpa using q
       ·have:=(aKD.1 V G F Y X z).1;rw[u,q]at this;simp only[BM (W _ l).2]at this;cases this
      have aoP:∀k k' i,(k,i)∈L->(k',i)∈L->k=k':=by
       intro k k' i l p;obtain⟨F,X,u⟩:=aKI l;obtain⟨G,Y,q⟩:=aKI p;rcases aKN F G with z|rfl|z
       ·have:=(aKD.1 V F G X Y z).2;rw[u,q]at this;simp at this
       ·rw[u]at q;simp at q;exact q
       ·have:=(aKD.1 V G F Y X z).2;rw[u,q]at this;simp at this
      -- an entry is left on one side where it is on the other
      have BO:∀(i:Nat)e m,dd[i]?=some e->arr.toList[i]?=some m->(e.1,m.born)∈L/\(c.contains m.born=R.any (dS e.1)):=by
       intro i e m l p;have B:=m6 i e m l p;obtain⟨cO,ri,Nn⟩:=pA _ T m (aKF p);have lx:cO=e.1:=Vq (W _ ri).2 B.2.1 Nn (bn.ia (γ:=λ_ _=>none) B.2.1 B.1);subst lx;refine⟨ri,?_⟩;rw[Bool.eq_iff_iff];constructor
       ·intro af;have kQ:m.born∈c.toList:=by simpa using af
        obtain⟨j,a8,Np⟩:=aKI kQ;have Z:j<R.length:=by omega
        have cf:=lA j R[j] m.born (by simp[Z]) (by rw[aKK a8,Np]);have:=aoP _ _ _ cf ri;rw[List.any_eq_true];exact⟨R[j],aKQ Z,by rw[this];exact BM B.2.1⟩
       ·intro af;rw[List.any_eq_true]at af;obtain⟨k,hk,Ev⟩:=af;obtain⟨j,a8,Np⟩:=aKI hk;have Z:j<c.toList.length:=by omega
        have cf:=lA j k c.toList[j] (by rw[aKK a8,Np]) (aKK Z);have lx:e.1=k:=Nh B.2.1 (W _ cf).2 Ev;rw[<-lx]at cf;have:=aoO _ _ _ cf ri;have:m.born∈c.toList:=by rw[<-this];exact aKQ Z
        simpa using this
      have hold:∀x∈arr.toList,x.born<last:=m8;rcases run_next_at (P:=P) w o.type r bu last last c arr last C T hold (aKE _)with⟨bS,Ib⟩|⟨m,hm,ba,sl,Ib⟩
      ·refine .inl ⟨?_,cT _ _ _ rj (by simpa[ptrTo]using Ib)⟩;rw[List.filter_eq_nil_iff];intro e he;obtain⟨i,m,l,p,B⟩:=A.vZ he;obtain⟨_,an⟩:=BO i e m l p;rw[<-an];have EA:leftOf arr c=#[]:=Array.eq_empty_of_size_eq_zero bS;unfold leftOf at EA;rw[Array.filter_eq_empty_iff]at EA;have:=EA m (by have:=aKF p;simpa using this);simpa using this
      ·have re:m∈arr.toList/\c.contains m.born=false:=by
        unfold leftOf at hm;simp at hm;refine⟨by simpa using hm.1,by simpa using hm.2⟩
       obtain⟨i,e,l,p,an,a6⟩:=A.other re.1;obtain⟨bY,dT⟩:=BO i e m l p;have nx:g.bO r=.bM BN:=bP;have cG:BN≠S:=by grind
       have aoQ:r≠bu:=by
        rintro rfl;rw[T]at C;cases C
       have J:∀k,k≠r->(setBlock ba r (.mapIter (some bu) last (c.push m.born) last)).heap[k]?=w.heap[k]?:=by
        intro k hk;have:ba.heap=w.heap:=by rcases sl with rfl|rfl<;>rfl
        simp only[setBlock,this];simp[Array.getElem?_setIfInBounds_ne (Ne.symm hk)]
       have Vy:(setBlock ba r (.mapIter (some bu) last (c.push m.born) last)).heap[r]?=some (.mapIter (some bu) last (c.push m.born) last):=by
        have:ba.heap=w.heap:=by rcases sl with rfl|rfl<;>rfl
        have z:r<w.heap.size:=(aKV.1 C).1;simp[setBlock,this,z]
       have Ic:(setBlock ba r (.mapIter (some bu) last (c.push m.born) last)).heap.size=w.heap.size:=by
        have:ba.heap=w.heap:=by rcases sl with rfl|rfl<;>rfl
        simp[setBlock,this]
       have K:((setBlock ba r (.mapIter (some bu) last (c.push m.born) last)).os,(setBlock ba r (.mapIter (some bu) last (c.push m.born) last)).tape)=(w.os,w.tape)/\(setBlock ba r (.mapIter (some bu) last (c.push m.born) last)).output=w.output:=by
        rcases sl with rfl|rfl<;>exact⟨rfl,rfl⟩
       generalize aNN:setBlock ba r (.mapIter (some bu) last (c.push m.born) last)=wd at J Vy Ic Ib K;have aF:GhLe g g:=⟨λ_ _ _ h=>h,λ_ _ h=>h⟩;have hk:Kept g w g wd λo=>o≠.bM BN:=λk hk=>⟨rfl,J k (λe=>hk (by rw[e,nx])),λ_=>rfl⟩;refine .inr ⟨e,?_,wd,_,cT _ _ _ rj (by simpa[ptrTo]using Ib),⟨aF,λk hk=>⟨hk,J k (λe=>by rw[e,nx]at hk;cases hk),λ_=>rfl⟩,by rw[Ic];exact aKE _,K.1,K.2⟩,?_,?_,λr' nu=>by rw[Q]at nu;simp at nu;subst nu;exact⟨congrArg Prod.fst K.1,congrArg Prod.snd K.1,K.2,by rw[Ic];exact aKE _,λk _ hk=>J k (λe=>hk (by rw[e]))⟩⟩
       ·grind
       ·exact .bg _ [.bool true,m.key,m.val] (.cons _ _ _ _ (.pure _ _ (.bool _)) (.cons _ _ _ _ a6.1 (.cons _ _ _ _ a6.2.2.1.a1 .nil)))
       ·refine⟨h.sorted,h.size,h.defers,λt e he=>(h.env t e he).kept aF hk be be be,λgm bM D=>?_,λk off v aq=>?_,λk hk=>by rw[Ic];exact h.own k hk,h.hf,λi b al=>i9⟩
        ·simp only at D;rw[aKO]at D;split at D
         ·rename_i O;subst O;split at D
          ·simp at D;subst D;refine⟨r,_,Q,Vy,nx,m1,c2,rfl,rfl,⟨L,V,W,by simp[eX],λi k sb kq ku=>?_,λsh aG fT aNO=>?_⟩,arr,last,by rw[J bu (Ne.symm aoQ)];exact T,aKE _⟩
           ·grind
           ·grind
          ·cases D
         ·rename_i O;exact(h.heap gm bM D).beside aF hk (λh=>O h.symm) Q (by simp[C]) be be
        ·have ey:=h.fI k off v aq;by_cases O:k=r
         ·subst O;unfold World.cell? at ey;rw[C]at ey;simp at ey
         ·unfold World.cell? at ey ⊢;rw[J k O];exact ey
    ·cases f
   ·cases f
  ·cases f
 ·cases f
end
open Go
section
variable {P:Program}{gl:cQ}{N:Nat}{g g':bD}{s s':au}{a:Act}{w w':World}{o:Oper}
def EB:Option Operand->Bool
 |some (.const (.int _ 0))=>true|_=>false
theorem aNP{x:Option Operand}(h:EB x=true):∃k,x=some (.const (.int k 0)):=by
 unfold EB at h;split at h
 ·exact⟨_,rfl⟩
 ·cases h
def aNQ(P:Program)(N:Nat)(o:Oper)(d:Nat)(x:aL)(sz:Nat):Bool:=cZ N o d &&
 (match o.op with
  |.slice t bK bc al k6=>dJ bK x&&vN P t sz&&(bc.isNone||EB bc)&&EB al&&EB k6|_=>false)
theorem aoR{k:IntKind}{y:Nat}{b:BoundsCode}:(Instr.sliceBound (.int k 0) y b).run P w=.ok 0 w:=by
 simp[Instr.sliceBound,asIntOf]
variable {t e:TypeId}
theorem aNR{f:TypeInfo}{base:Option Addr}{len cap:Nat}{bc:Option Value}{k' b:IntKind}(c:bc=none\/∃k,bc=some (.int k 0))(d:P.underlying t=some (.slice e))(h:P.info? e=some f) :
  (Instr.sliceAt t (.slice base len cap) bc (some (.int k' 0)) (some (.int b 0))).run P w=.ok (.slice base 0 0) w:=by
 rcases c with rfl|⟨k,rfl⟩ <;>
  simp[Instr.sliceAt,Instr.slice,run_underlying d,Instr.sliceBounds,aoR,Go.sizeOf,typeInfo,h]
variable {sz:Nat}
theorem aNS{t:Nat}(h:vN P t sz=true):∃e f,P.underlying t=some (.slice e)/\P.info? e=some f/\f.size=sz:=by
 unfold vN at h;split at h
 ·rename_i e b;split at h
  ·rename_i f c;exact⟨e,f,b,c,f8⟩
  ·cases h
 ·cases h
theorem aNT(sz:Nat):cY (.lU sz):=λ_ _ _ h=>by simp at h
variable {v:Value}
theorem bn.aNU(h:bn g (.lU sz) v):∃base,v=.slice base 0 0:=by
 cases h with
 |pure _ _ h=>cases h|lU _ base=>exact⟨base,rfl⟩
variable {ty:TypeId}{i:TypeInfo}
theorem aNV{z:Value}(p:P.underlying t=some (.slice e))(al:P.info? e=some i)(q:i.zero=some z)(y:z.cells.size=i.size)
  (base:Option Addr){ad:Addr}{m c:Nat}{news:List Value}(f:news.length=m*i.size)
  (r:∀j u,news[j]?=some u->w.cell? (ad.add j)=some u)(hm:0<m)(A:m<=M)(ae:i.bytes<=128) :
  ∃n w',(Builtin.append_ #[t,t] ty #[.slice base 0 0,.slice (some ad) m c]).run P w=.ok n w'/\w'.ownsRow 0 e i.size n m news /\
   n.ownBlock=some w.heap.size/\w.heap.size<w'.heap.size/\(∀k,k<w.heap.size->w'.heap[k]?=w.heap[k]?)/\((w'.os,w'.tape)=(w.os,w.tape)/\w'.output=w.output):=by
 unfold M at A;have B:m*i.bytes<=140737488355328:=by
  calc m*i.bytes<=1099511627776*128:=Nat.mul_le_mul am ae
   _=140737488355328:=by decide
 have C:m<=maxLen:=by unfold maxLen;omega
 have d:(w.drew.alloc (.cells (#[]++news.toArray++Builtin.zeroCells z.cells (grownCap w m 0 e-m)) e)).ownsRow 0 e i.size
    (.slice (some ⟨w.heap.size,0,none⟩) m (grownCap w m 0 e)) m news:=by
  have D:=grownCap_ge w m 0 e;have E:grownCap w m 0 e<=maxLen:=grownCap_le_maxLen w m 0 e C;refine⟨f,.inr ⟨w.heap.size,_,_,rfl,aKS _,heap_alloc_new w.drew _,D,E,?_,?_⟩⟩
  ·simp only[Array.empty_append,Array.size_append,List.size_toArray,size_zeroCells,y,f,<-Nat.add_mul];congr 1;omega
  ·simp only[Array.empty_append,Array.toList_append];rw[<-f];exact List.take_left
 have x:∀k,k<w.heap.size->(w.drew.alloc (.cells (#[]++news.toArray++Builtin.zeroCells z.cells (grownCap w m 0 e-m)) e)).heap[k]?=w.heap[k]?:=λk hk=>heap_alloc_old w.drew _ (h:=hk);cases base with
 |none =>
  have l:=run_append_nil (P:=P) w t ty e i z p al q ad m c news f r hm am am;rw[show(news.toArray++Builtin.zeroCells z.cells (grownCap w m 0 e-m))=(#[]++news.toArray++Builtin.zeroCells z.cells (grownCap w m 0 e-m)) by simp]at l;exact⟨_,_,l,d,rfl,lc,x,rfl,rfl⟩
 |some b =>
  have l:=run_append_grow (P:=P) w t ty e i z p al q b 0 0 [] be be ad m c news f r am am (growslice_fits am (by simpa using B));simp only[aKJ]at l;exact⟨_,_,l,d,rfl,lc,x,rfl,rfl⟩
theorem aNW(d:P.underlying t=some (.slice e))(al:P.info? e=some i)(base b:Option Addr)(c:Nat) :
  (Builtin.append_ #[t,t] ty #[.slice base 0 0,.slice b 0 c]).run P w=.ok (.slice base 0 0) w:=by
 cases base<;>cases b<;>simp[Builtin.append_,run_underlying d,Go.sizeOf,typeInfo,al,Builtin.lenOf,Builtin.firstCells,loadCells,loadCellsFrom,storeCells]
def aNX(P:Program)(N:Nat)(o:Oper)(d u:Nat)(x:aL)(e sz:Nat):Bool:=H0 P N o d u x e sz
def Nq(N:Nat)(o:Oper)(d:Nat)(x:aL):Bool:=cZ N o d&&(match th o.op with|some (.unsafeSliceData,[bK],_)=>dJ bK x|_=>false)
variable {d:Nat}{x:aL}
theorem aoT(h:Rel P gl N g s a w)(j:Nq N o d x=true)(he:aJ gl s (.s6 d x)=some s'):eu P gl N o g a w s':=by
 simp only[Nq,aKB]at j;obtain⟨hd,c⟩:=j;split at c
 ·rename_i r bE aE;obtain⟨u,l⟩:=vI (o:=o) aE rfl a.eval;simp only[aJ]at he;split at he
  ·rename_i id off n sz f;split at he
   ·rename_i y;obtain⟨b,k,cap,m,z,A,B,p⟩:=(dk h c f).ti;refine .value h hd he ?_ (.ptr _ _ _ m) (vM _ _);rw[l];simp only[builtin,aKG,aKM,p,Sem.run_bind,Lib.run_unsafeSliceData_row w _ _ _ _ _ (show cap≠0 by omega),Result.andThen_ok,Sem.run_pure]
   ·cases he
  ·rename_i sz f;have q:=(dk h c f).uz;refine .value h hd he ?_ (.pure _ _ .fl) (λ_ _ _ h=>f9);rw[l];simp only[builtin,aKG,aKM,q,Sem.run_bind,Lib.run_unsafeSliceData_nil,Result.andThen_ok,Sem.run_pure]
  ·cases he
 ·cases c
def Nr(P:Program)(N:Nat)(o:Oper)(d e:Nat)(x n:aL):Bool:=cZ N o d &&
 (match th o.op with|some (.unsafeString,[bK,n'],[Ie,_])=>dJ bK x&&dJ n' n&&P.cellsOf e==1&&(match P.underlying Ie with|some (.pointer cB)=>cB==e|_=>false)|_=>false)
theorem VB:∀{cs:List AV}{b:List UInt8}{us:List Value},bytesOf cs=some b->cS g cs us->us=b.map λc=>.int .u8 c.toNat
 |[],b,us,h,j=>by simp[bytesOf]at h;subst h;cases j;rfl|c::cs,b,us,h,j=>by
  cases j with
  |cons _ _ v vs h1 k =>
   unfold bytesOf at h;split at h
   ·rename_i f;cases f
   ·rename_i n r f;simp at f;obtain⟨rfl,rfl⟩:=f;split at h
    ·rename_i q;rw[Option.map_eq_some_iff]at h;obtain⟨u,l,rfl⟩:=h;have m:=h1.kp;have p:=VB l k;subst m p;simp only[aKG,List.cons.injEq,and_true];congr 1
     have:(UInt8.ofNat n.toNat).toNat=n.toNat:=by
      rw[UInt8.toNat_ofNat'];exact Nat.mod_eq_of_lt am
     rw[this];omega
    ·cases h
   ·cases h
variable {b n:Nat}
theorem aoU(c:n≠0)(w:World)(k:Nat)(hk:k≠b):(w.freeze ⟨b,0,none⟩ n).heap[k]?=w.heap[k]?:=by
 simp[World.freeze,c,Array.getElem?_modify,Ne.symm hk]
theorem aoV(w:World):(w.freeze ⟨b,0,none⟩ n).heap.size=w.heap.size:=by
 unfold World.freeze;split<;>simp
theorem Rel.dead(h:Rel P gl N g s a w)(id:Nat):Rel P gl N g { s with heap:=s.heap.set id .dead } a w:=by
 refine⟨h.sorted,h.size,h.defers,h.env,λf bM c=>?_,h.fI,h.own,h.hf,λi b al=>i9⟩;simp only at c;rw[aKO]at c;split at c
 ·split at c
  ·simp at c;subst c;trivial
  ·cases c
 ·exact h.heap f bM c
theorem Rel.aoW(h:Rel P gl N g s a w){id:Nat}(r:s.heap[id]?=some .dead)(ae:g.cg id=some b)(aE:g.bO b=.bM id)(u:∀off,g.γ b off=none)(hm:∀arr n,w.heap[b]?≠some (.map arr n))(ax:w'.heap.size=w.heap.size)(f:∀k,k≠b->w'.heap[k]?=w.heap[k]?)(m:(w'.os,w'.tape)=(w.os,w.tape)/\w'.output=w.output) :
  eL g w g w'/\Rel P gl N g s a w':=by
 have j:GhLe g g:=⟨λ_ _ _ h=>h,λ_ _ h=>h⟩;have hk:Kept g w g w' λo=>o≠.bM id:=λk hk=>⟨rfl,f k (λe=>hk (by rw[e,aE])),λ_=>rfl⟩;refine⟨⟨j,λk hk=>⟨hk,f k (λe=>by rw[e,aE]at hk;cases hk),λ_=>rfl⟩,by rw[ax];exact aKE _,m.1,m.2⟩,?_⟩;refine⟨h.sorted,h.size,h.defers,λt e he=>(h.env t e he).kept j hk be be be,λp bM c=>?_,λk off v l=>?_,λk hk=>by rw[ax];exact h.own k hk,h.hf,h.ga⟩
 ·by_cases e:p=id
  ·subst e;rw[r]at c;simp at c;subst c;trivial
  ·exact(h.heap p bM c).beside j hk e ae hm be be
 ·have q:=h.fI k off v l;have y:k≠b:=by rintro rfl;rw[u]at l;cases l
  unfold World.cell? at q ⊢;rw[f k y];exact q
theorem aoX{e:Nat}{n:aL}(h:Rel P gl N g s a w)(E:Nr P N o d e x n=true)(he:aJ gl s (.s7 d e x n)=some s'):eu P gl N o g a w s':=by
 simp only[Nr,aKB]at E;obtain⟨hd,f⟩:=E;split at f
 ·rename_i bK n' F it aE;obtain⟨xK,G⟩:=vI (o:=o) aE rfl a.eval;simp only[aKB,beq_iff_eq]at f;obtain⟨⟨⟨ah,H⟩,r⟩,p⟩:=f;split at p
  ·rename_i cB ar;simp at p;subst p;simp only[aJ]at he;split at he
   ·rename_i id m u z;split at he
    ·rename_i S cs J;split at he
     ·rename_i ae;obtain⟨rfl,K,h1,T⟩:=ae;obtain⟨l,V,he⟩:=bind_some he;obtain⟨b,L,W⟩:=(dk h ah u).tf;have hm:=(dk h H z).kp;obtain⟨b5,k,A,x0,O,⟨arr,B,c5⟩,fL⟩:=h.heap _ _ J;rw[L]at A;simp at A;subst A;obtain⟨ws,X,C,gv,Y⟩:=O.cells (off:=0) (n:=m.toNat);simp only[List.drop_zero]at X C;have Q:=VB V C;have c:l.length=m.toNat:=by
       have:=C.get.1;rw[Q]at this;simp at this;omega
      have Z:(m:Int)=l.length:=by omega
      obtain⟨R,VC,D,z2,z3,z4,_⟩:=O;rw[B]at D;simp at D;obtain⟨rfl,rfl⟩:=D;have hM:∀j y,l[j]?=some y->w.cell? ((⟨b,0,none⟩:Addr).add j)=some (.int .u8 y.toNat):=λj y a7=>by
       rw[n0,aKJ];have:=Y j (.int .u8 y.toNat) (by rw[Q];simp[a7]);simpa using this
      have aw:=Lib.run_unsafeString_row (P:=P) w F it o.type S ar r b arr.size (by simp[World.shape?,B]) l (by intro e;subst e;simp at c;omega) am (by unfold M at T;omega) hM;have nv:l.length≠0:=by omega
      have Ns:=h.dead id;have tj:id<s.heap.length:=(aKC.1 J).1;obtain⟨t1,t2⟩:=Ns.aoW (w':=w.freeze ⟨b,0,none⟩ l.length) (id:=id) (b:=b) (by simp[tj]) L z3 z4 (by simp[B]) (aoV w) (λk hk=>aoU nv w k hk) (by unfold World.freeze;split<;>exact⟨rfl,rfl⟩);simp only[cZ,aKB,beq_iff_eq,decide_eq_true_eq]at hd;refine⟨.string ⟨l.toArray⟩,_,g,.inl ?_,t1,?_⟩
      ·rw[G];simp only[builtin,aKG,aKM,W,hm,Z,ptrTo,Sem.run_bind,aw,Result.andThen_ok,Sem.run_pure]
      ·rw[hd.1];exact t2.put he hd.2 (.pure _ _ (.str _ am)) (zp _).gG
     ·cases he
    ·cases he
   ·rename_i m u z;split at he
    ·rename_i K;subst K;have q:=(dk h ah u).D3;have hm:=(dk h H z).kp;refine .value h hd he ?_ (.pure _ _ (.str [] be)) (zp _);rw[G];simp only[builtin,aKG,aKM,q,hm,Sem.run_bind,Lib.run_unsafeString_none w F it,Result.andThen_ok,Sem.run_pure];rfl
    ·cases he
   ·cases he
  ·cases p
 ·cases f
variable {fn:Func}
theorem aoZ(h:fn.name= "internal/abi.NoEscape"):Extern.find fn=some Extern.AbiNoEscape.same/\((Extern.allNextRows.lookup fn.name).map (· fn.params fn.resultTypes))=none:=by
 have c:Extern.allGenericRows.lookup "internal/abi.NoEscape"=none:=by kernel_rfl
 have f:Extern.allTypedRows.lookup "internal/abi.NoEscape"=none:=by kernel_rfl
 have j:Extern.allRows.lookup "internal/abi.NoEscape"=some Extern.AbiNoEscape.same:=by kernel_rfl
 have k:Extern.allNextRows.lookup "internal/abi.NoEscape"=none:=by kernel_rfl
 refine⟨?_,by rw[h,k];rfl⟩;simp only[Extern.find,h,c,f,j];rfl
theorem ao0(h:fn.name= "internal/bytealg.abigen_runtime_cmpstring"):Extern.find fn=some Extern.BytealgCompare.compare/\((Extern.allNextRows.lookup fn.name).map (· fn.params fn.resultTypes))=none:=by
 have c:Extern.allGenericRows.lookup "internal/bytealg.abigen_runtime_cmpstring"=none:=by kernel_rfl
 have f:Extern.allTypedRows.lookup "internal/bytealg.abigen_runtime_cmpstring"=none:=by kernel_rfl
 have j:Extern.allRows.lookup "internal/bytealg.abigen_runtime_cmpstring"=some Extern.BytealgCompare.compare:=by kernel_rfl
 have k:Extern.allNextRows.lookup "internal/bytealg.abigen_runtime_cmpstring"=none:=by kernel_rfl
 refine⟨?_,by rw[h,k];rfl⟩;simp only[Extern.find,h,c,f,j];rfl
def Nt(P:Program)(f:Nat)(dv:String):Bool:=match P.funcs[f]? with
 |some fn=>fn.name==dv&&fn.body.isNone&&(Extern.allNextRows.lookup fn.origin).isNone|none=>false
variable {f:Nat}{dv:String}
theorem ao1{args:Array Value}{e:Array Value->Sem Value}(h:Nt P f dv=true)(j:(dv== "runtime.NumGoroutine")=false)
  (k:∀fn:Func,fn.name=dv->Extern.find fn=some e/\((Extern.allNextRows.lookup fn.name).map (· fn.params fn.resultTypes))=none)(l:(e args).run P w=.ok v w) :
  (callFunc f args).run P w=.ok (.value v) w:=by
 unfold Nt at h;split at h
 ·rename_i fn m;simp only[aKB,beq_iff_eq,Option.isNone_iff_eq_none]at h;obtain⟨⟨c,p⟩,q⟩:=h;obtain⟨r,u⟩:=k fn c;have y:Extern.findNext fn=none:=by
   simp only[Extern.findNext,u,q];rfl
  simp only[callFunc,Sem.run_bind,run_program,Result.andThen_ok,m,c,j,aKH,if_false];simp only[p,Option.isNone_none,if_true,Sem.run_bind,run_mark,Result.andThen_ok,y,r,l,Sem.run_pure]
 ·cases h
def BQ(P:Program)(N:Nat)(o:Oper)(d f:Nat)(dv:String)(xs:List aL):Bool:=cZ N o d&&Nt P f dv &&
 (match o.op with|.call c=>(match c.callee with|.value (.func iS)=>iS==f&&jX c.args.toList xs|_=>false)|_=>false)
theorem VD{xs:List aL}{e:Array Value->Sem Value}(j:BQ P N o d f dv xs=true)(k:(dv== "runtime.NumGoroutine")=false)
  (l:∀fn:Func,fn.name=dv->Extern.find fn=some e/\((Extern.allNextRows.lookup fn.name).map (· fn.params fn.resultTypes))=none) :
  cZ N o d=true/\∃ys:List Operand,jX ys xs=true/\∀v,(e (ys.map a.eval).toArray).run P w=.ok v w->(execOp a.eval o).run P w=.ok (.value v) w:=by
 simp only[BQ,aKB]at j;obtain⟨⟨hd,ah⟩,h⟩:=j;refine⟨hd,?_⟩;split at h
 ·rename_i c aE;split at h
  ·rename_i u m;simp only[aKB,beq_iff_eq]at h;obtain⟨rfl,p⟩:=h;refine⟨c.args.toList,p,λv q=>?_⟩;have r:(List.map a.eval c.args.toList).toArray=c.args.map a.eval:=by apply Array.ext';simp
   simp only[execOp,aE,resolve,m,Act.eval,Deferred.ofValue,Sem.run_bind,Sem.run_pure,Result.andThen_ok,invoke];refine ao1 (v:=v) ah k l ?_;rw[<-r];simpa using q
  ·cases h
 ·cases h
theorem ao2(h:Rel P gl N g s a w)(j:BQ P N o d f "internal/abi.NoEscape" [x]=true)(he:aJ gl s (.s8 d f x)=some s'):eu P gl N o g a w s':=by
 obtain⟨hd,k,c,l⟩:=VD (P:=P) (a:=a) (w:=w) j dw (λfn h=>aoZ h);obtain⟨u,m,p⟩:=bind_some he
 match k,c with
 |[y],c =>
  have q:dJ y x=true:=by simpa[jX]using c
  exact .value h hd p (l (a.eval y) rfl) (dk h q m).a1 (cY.a1 u)
 |[],c=>simp[jX]at c|_::_::_,c=>simp[jX]at c
theorem ao3:∀(x y:List UInt8),Extern.BytealgCompare.cmp ⟨x.toArray⟩ ⟨y.toArray⟩=du x y:=by
 have j:∀(x y:List UInt8)(p q:List UInt8),p.length=q.length->
   (match((List.range (min x.length y.length)).find? λi=>(p++x)[p.length+i]! != (q++y)[q.length+i]!)with
    |some i=>if(p++x)[p.length+i]! < (q++y)[q.length+i]! then(-1:Int)else 1|none=>if x.length<y.length then -1 else if x.length>y.length then 1 else 0)=du x y:=by
  intro x;induction x with
  |nil =>
   intro y p q _;cases y<;>simp[du]
  |cons c x ih =>
   intro y p q z;cases y with
   |nil=>simp[du]|cons d y =>
    have k:min (c::x).length (d::y).length=min x.length y.length+1:=by simp
    rw[k,List.range_succ_eq_map,List.find?_cons];have r:(p++c::x)[p.length+0]! = c:=by simp
    have u:(q++d::y)[q.length+0]! = d:=by simp
    rw[r,u];by_cases m:c=d
    ·subst m;simp only[bne_self_eq_false,List.find?_map];have:=ih y (p++[c]) (q++[c]) (by simp[z]);simp only[List.append_assoc,List.singleton_append,aKU,List.length_cons,aKX,aKJ]at this;simp only[du,if_true];rw[<-this];have A:((λi=>(p++c::x)[p.length+i]! != (q++c::y)[q.length+i]!)∘Nat.succ)=λi=>(p++c::x)[p.length+1+i]! != (q++c::y)[q.length+1+i]!:=by
      funext i
      simp only[Function.comp];rw[show p.length+i.succ=p.length+1+i by omega,show q.length+i.succ=q.length+1+i by omega]
     rw[A];cases C:(List.range (min x.length y.length)).find? (λi=>(p++c::x)[p.length+1+i]! != (q++c::y)[q.length+1+i]!)with
     |none=>simp|some i =>
      simp only[Option.map_some];rw[show p.length+i.succ=p.length+1+i by omega,show q.length+i.succ=q.length+1+i by omega]
    ·have:(c != d)=true:=by simp[m]
     simp only[this,du,m,if_false];simp only[r,u]
 intro x y;have:=j x y [] [] rfl;simp only[List.nil_append,aKX,aKJ]at this;rw[<-this];have B:∀(l:List UInt8)(i:Nat),(ByteArray.mk l.toArray)[i]! = l[i]!:=by
  intro l i;by_cases h:i<l.length
  ·rw[getElem!_pos _ _ (by simpa[ByteArray.size]using h),getElem!_pos l i h];rfl
  ·rw[getElem!_neg _ _ (by simpa[ByteArray.size]using h),getElem!_neg l i h]
 simp only[Extern.BytealgCompare.cmp,ByteArray.size,List.size_toArray,B];rfl
theorem ao5{y:aL}(h:Rel P gl N g s a w)(j:BQ P N o d f "internal/bytealg.abigen_runtime_cmpstring" [x,y]=true)(he:aJ gl s (.uu d f x y)=some s'):eu P gl N o g a w s':=by
 obtain⟨hd,k,c,p⟩:=VD (P:=P) (a:=a) (w:=w) j dw (λfn h=>ao0 h);simp only[aJ]at he;split at he
 ·rename_i l m q r
  match k,c with
  |[B,C],c =>
   simp only[jX,List.length_cons,aKX,List.zip_cons_cons,List.zip_nil_right,List.all_cons,List.all_nil,Bool.and_true,aKB,beq_self_eq_true,true_and]at c;obtain⟨u,_⟩:=(dk h c.1 q).mG;obtain⟨z,_⟩:=(dk h c.2 r).mG;refine .value h hd he (p (.int .i64 (du l m)) ?_) (.pure _ _ (.int _ _)) (pt _ _);have A:Extern.BytealgCompare.compare #[.string ⟨l.toArray⟩,.string ⟨m.toArray⟩]=(do pure (goInt (Extern.BytealgCompare.cmp (<-Extern.Bytes.bytesOf (.string ⟨l.toArray⟩)) (<-Extern.Bytes.bytesOf (.string ⟨m.toArray⟩))))):=rfl;simp only[aKG,aKM,u,z,A,Extern.Bytes.bytesOf,Sem.run_bind,Sem.run_pure,Result.andThen_ok,ao3,goInt]
  |[],c=>simp[jX]at c|[_],c=>simp[jX]at c|_::_::_::_,c=>simp[jX]at c
 ·cases he
end
section
variable {P:Program}{gl:cQ}{N:Nat}{g g':bD}{s s':au}{a:Act}{w w':World}{o:Oper}
variable {t u ty e:TypeId}{i:TypeInfo}{v:Value}{n:Nat}
theorem ao6{z:Value}(x:P.underlying t=some (.slice e))(y:P.underlying u=some .string)(al:P.info? e=some i)(D:i.zero=some z)(J:z.cells.size=i.size)(A:i.size=1)
  {xs:List Value}(p:w.ownsRow 0 e i.size v n xs)(s:ByteArray)(hm:0<s.size)(K:n+s.size<=M)(ae:i.bytes<=128) :
  ∃r w',(Builtin.append_ #[t,u] ty #[v,.string s]).run P w=.ok r w'/\w'.ownsRow 0 e i.size r (n+s.size) (xs++Lib.strCells s)/\w.heap.size<=w'.heap.size /\
   ((r.ownBlock=v.ownBlock/\v.ownBlock≠none/\∀k,some k≠v.ownBlock->w'.heap[k]?=w.heap[k]?)\/(r.ownBlock=some w.heap.size/\w.heap.size<w'.heap.size/\∀k,k<w.heap.size->w'.heap[k]?=w.heap[k]?))/\((w'.os,w'.tape)=(w.os,w.tape)/\w'.output=w.output):=by
 unfold M at K;have E:(n+s.size)*i.bytes<=140737488355328:=by
  calc (n+s.size)*i.bytes<=1099511627776*128:=Nat.mul_le_mul am ae
   _=140737488355328:=by decide
 have L:n+s.size<=maxLen:=by unfold maxLen;omega
 have F:(Lib.strCells s).length=s.size*i.size:=by rw[Lib.strCells_length,A,Nat.mul_one]
 have d:(xs++Lib.strCells s).length=(n+s.size)*i.size:=by rw[aKU,p.1,F,Nat.add_mul]
 have c:∀(f:Nat),f<n+s.size ->
   (w.drew.alloc (.cells (xs.toArray++(Lib.strCells s).toArray++Builtin.zeroCells z.cells (grownCap w (n+s.size) f e-(n+s.size))) e)).ownsRow 0 e i.size
    (.slice (some ⟨w.heap.size,0,none⟩) (n+s.size) (grownCap w (n+s.size) f e)) (n+s.size) (xs++Lib.strCells s):=by
  intro f aE;have O:=grownCap_ge w (n+s.size) f e;have B:grownCap w (n+s.size) f e<=maxLen:=grownCap_le_maxLen w (n+s.size) f e L;refine⟨d,.inr ⟨w.heap.size,_,_,rfl,aKS _,heap_alloc_new w.drew _,O,B,?_,?_⟩⟩
  ·simp only[Array.size_append,List.size_toArray,size_zeroCells,J,p.1,F,<-Nat.add_mul];congr 1;omega
  ·grind
 rcases p.2 with⟨rfl,rfl⟩|⟨g,cap,l,rfl,T,G,V,B,Q,W⟩
 ·have ah:xs=[]:=aKY (by simpa using p.1);subst ah;have q:=run_append_nil_string (P:=P) w t u ty e i z x y al D s hm am (by simp only[aKJ]at E;omega);have H:=c 0 am;simp only[aKJ,List.nil_append,Array.empty_append]at H ⊢;have R:(s.data.map λb=>Value.int .u8 b.toNat)=(Lib.strCells s).toArray:=by
   apply Array.ext';simp[Lib.strCells]
  rw[R]at q;exact⟨_,_,q,H,lc,.inr ⟨rfl,lc,λk hk=>heap_alloc_old w.drew _ (h:=hk)⟩,rfl,rfl⟩
 ·by_cases C:n+s.size<=cap
  ·have S:n+s.size<=l.size:=by rw[Q,A,Nat.mul_one];exact C
   have q:=Lib.run_append_room_string (P:=P) w t u ty e i x y al A g n cap l G s C S;refine⟨_,_,q,⟨d,.inr ⟨g,cap,_,rfl,aKS _,setRow_heap w g l _ e _ G,C,B,?_,?_⟩⟩,be,.inl ⟨rfl,by simp[Value.ownBlock],λk hk=>setRow_other w g k _ (λe=>hk (by simp[Value.ownBlock,e]))⟩,rfl,rfl⟩
   ·grind
   ·grind
  ·have m:∀j u,xs[j]?=some u->w.cell? ((⟨g,0,none⟩:Addr).add j)=some u:=p.cells (g:=g) rfl;have q:=Lib.run_append_grow_string (P:=P) w t u ty e i z x y al D ⟨g,0,none⟩ n cap xs p.1 m s am am (growslice_fits am E);exact⟨_,_,q,c cap am,lc,.inr ⟨rfl,lc,λk hk=>heap_alloc_old w.drew _ (h:=hk)⟩,rfl,rfl⟩
variable {sz c:Nat}
theorem Rel.Nu(h:Rel P gl N g s a w){nb e:Nat}{cs:List AV}{us:List Value}{cur:Array Value}
  (D:g.bO nb=.none\/∃id,g.bO nb=.bM id/\s.heap[id]?=some .dead/\g.cg id=some nb/\∀arr n,w.heap[nb]?≠some (.map arr n))
  (K:∀off,g.γ nb off=none)(E:∀k,k≠nb->k<w.heap.size->w'.heap[k]?=w.heap[k]?)(L:w.heap.size<=w'.heap.size)(F:(w'.os,w'.tape)=(w.os,w.tape)/\w'.output=w.output)
  (l:w'.heap[nb]?=some (.cells cur e (0,0)))(y:cur.size=c*sz)(G:∀(j:Nat)u,us[j]?=some u->cur[j]?=some u)(r:cS g cs us)(O:∀u∈us,u.oneCell'=true)(Q:∀x∈cs,cY x)(R:ko P e sz=true)(S:c<=maxLen) :
  ∃g',eL g w g' w'/\Rel P gl N g' { s with heap:=s.heap++[ay.buf e cs,.dead] } a w'/\g'.cg s.heap.length=some nb/\g'.cg (s.heap.length+1)=some (c*sz):=by
 have T:nb<w'.heap.size:=(aKV.1 l).1;let d:bD:={ g with bO:=λk=>if k=nb then .bM s.heap.length else g.bO k,cg:=λid=>if id=s.heap.length then some nb else if id=s.heap.length+1 then some (c*sz)else g.cg id }
 have m:GhLe g d:=⟨λ_ _ _ h=>h,λid b q=>by
  have:=h.ga id b q;simp[d,show id≠s.heap.length by omega,show id≠s.heap.length+1 by omega];exact q⟩
 have A:∀k,k≠nb->g.bO k≠.none->d.bO k=g.bO k/\w'.heap[k]?=w.heap[k]?/\∀o,d.γ k o=g.γ k o:=λk hk V =>
  ⟨by simp[d,hk],E k hk (h.own k V),λ_=>rfl⟩
 have nA:g.bO nb≠.outer:=by grind
 have B:Kept g w d w' λo=>o≠.none/\∀id,o=.bM id->s.heap[id]?≠some .dead:=λk hk=>by
  refine A k ?_ hk.1;rintro rfl;rcases D with h|⟨id,h,W,_⟩
  ·exact hk.1 h
  ·exact hk.2 id h W
 refine⟨d,⟨m,λk hk=>?_,L,F.1,F.2⟩,?_,by simp[d],by simp[d]⟩
 ·grind
 ·refine⟨h.sorted,h.size,h.defers,λt e he=>(h.env t e he).kept m B be be be,λid bM f=>?_,λk off v r=>?_,λk hk=>?_,h.hf,λid b q=>?_⟩
  ·simp only at f;by_cases X:id<s.heap.length
   ·rw[aKT X]at f;have de:=h.heap id bM f;rcases D with Y|⟨H,Z,av,aQ,bG⟩
    ·have hk:Kept g w d w' λo=>o≠.none:=λk hk=>A k (by rintro rfl;exact hk Y) hk;exact de.kept m hk be be
    ·by_cases p:id=H
     ·subst p;rw[av]at f;simp at f;subst f;trivial
     ·have hk:Kept g w d w' λo=>o≠.none/\o≠.bM H:=λk hk=>A k (by rintro rfl;exact hk.2 Z) hk.1;exact de.beside m hk p aQ bG (λi al=>by simp[al]) be
   ·rw[aK2 am]at f;by_cases p:id=s.heap.length
    ·subst p;simp at f;subst f;obtain⟨i,z,bT,b8,c8,dU,gP,hA⟩:=ra R;refine⟨nb,c*sz,by simp[d],by simp[d],⟨cur,e,l,?_,by simp[d],K,λj x ah=>?_⟩,⟨cur,l,y⟩,i,z,bT,am,dU,am,hA,by rw[b8];exact Nat.mul_le_mul_right _ S⟩
     ·have aC:=r.get.1;rcases Nat.eq_zero_or_pos us.length with bS|bS
      ·omega
      ·have mF:=G (us.length-1) us[us.length-1] (by simp[show us.length-1<us.length by omega]);have:=(aKV.1 mF).1;omega
     ·obtain⟨v,J,aV⟩:=r.get.2 j x ah;exact⟨v,G j v J,O v (aKF J),aV.mono m,(Q x (aKF ah)).gG⟩
    ·obtain⟨k,hk⟩:∃k,id-s.heap.length=k+1:=⟨id-s.heap.length-1,am⟩;rw[hk]at f;cases k with
     |zero=>simp at f;subst f;trivial|succ k=>simp at f
  ·have C:=h.fI k off v r;have nr:k≠nb:=by grind
   have gb:=Bw C;unfold World.cell? at C ⊢;rw[E k nr gb];exact C
  ·by_cases p:k=nb
   ·subst p;exact T
   ·have:g.bO k≠.none:=by simpa[d,p]using hk
    have:=h.own k this;omega
  ·simp only[aKU,List.length_cons,aKX];by_cases p:id=s.heap.length
   ·omega
   ·by_cases aH:id=s.heap.length+1
    ·omega
    ·simp[d,p,aH]at q;have:=h.ga id b q;omega
def Nv(P:Program)(N:Nat)(o:Oper)(d e sz:Nat)(sb:Bool)(u x:aL):Bool:=cZ N o d &&
 (match th o.op with
  |some (.append,[k9,bK],[t,jY])=>dJ k9 u&&dJ bK x&&zv P t e sz&&(if sb=true then HN P jY&&sz==1 else t==jY)|_=>false)
theorem fX.zF:∀{ws:List Value}{cs:List AV},fX g.γ cs ws->cS g cs ws
 |[],_,h=>by cases h;exact .nil|_::_,_,.cons _ _ _ _ _ b d=>.cons _ _ _ _ (.pure _ _ b) (fX.zF d)
variable {sb:Bool}
theorem VE(h:Rel P gl N g s a w){y:AV}{ys:List AV}(f:bn g y v)(m:y.vx sb=some (sz,ys)) :
  ∃news:List Value,news.length=ys.length*sz/\cS g (ys.map λv:AV=>v.cells.map AV.a1).flatten news/\(∀u∈news,u.oneCell'=true) /\
   ((sb=false/\∃base cap,v=.slice base ys.length cap/\(ys=[]\/∃b off,base=some ⟨b,off,none⟩/\∀j u,news[j]?=some u->w.cell? ((⟨b,off,none⟩:Addr).add j)=some u)) \/
    (sb=true/\∃l:List UInt8,v=.string ⟨l.toArray⟩/\sz=1/\ys.length=l.length/\news=Lib.strCells ⟨l.toArray⟩)):=by
 cases sb with
 |true =>
  cases y<;>simp[AV.vx]at m;rename_i l;obtain⟨rfl,p⟩:=f.mG;obtain⟨rfl,rfl⟩:=m;refine⟨Lib.strCells ⟨l.toArray⟩,by rw[Lib.strCells_length];simp[ByteArray.size],?_,Lib.strCells_oneCell _,.inr ⟨rfl,l,rfl,rfl,be,rfl⟩⟩;simp only[Lib.strCells];clear f p;induction l with
  |nil=>exact .nil|cons c l ih=>exact .cons _ _ _ _ (.pure _ _ (.int _ _)) ih
 |false =>
  have A:y.ju=some (sz,ys):=by cases y<;>exact m
  obtain⟨base,cap,q,G,H⟩:=bn.MJ f A;rcases H with rfl|⟨b,off,rfl,B⟩
  ·exact⟨[],be,.nil,be,.inl ⟨rfl,base,cap,q,.inl rfl⟩⟩
  ·obtain⟨d,m1,C,D,E,F⟩:=B.nw;refine⟨d.flatten,E,?_,λu J=>?_,.inl ⟨rfl,_,cap,q,.inr ⟨b,off,rfl,λj u K=>by rw[n0];exact h.fI _ _ _ (F j u K)⟩⟩⟩
   ·clear B F E m A f q G D;induction ys generalizing d with
    |nil=>cases d with|nil=>exact .nil|cons=>simp at m1
    |cons y ys ih =>
     cases d with
     |nil=>simp at m1|cons r d =>
      obtain⟨Q,L,R⟩:=C 0 y r be be;simp only[aKG,List.flatten_cons];refine cS.append (cS.a1 ?_) (ih d (by simpa using m1) λk x r ah z=>C (k+1) x r nf (by simpa using z));exact L.zF
   ·obtain⟨r,z,O⟩:=List.mem_flatten.1 J;exact D r z u O
theorem VF{x:Value}{base:Option Addr}(f:P.underlying t=some (.slice e))(d:(∃h,P.underlying u=some (.slice h))\/P.underlying u=some .string)(al:P.info? e=some i)
  (ah:(∃b k,x=.slice b 0 k)\/x=.string ⟨#[]⟩)(j:n<=c)(ae:base=none->n=0/\c=0) :
  (Builtin.append_ #[t,u] ty #[.slice base n c,x]).run P w=.ok (.slice base n c) w:=by
 rcases d with⟨h,d⟩|d<;>rcases ah with⟨b,k,rfl⟩|rfl<;>cases base <;>
  first
  |(cases b<;>simp[Builtin.append_,run_underlying f,run_underlying d,Go.sizeOf,typeInfo,al,Builtin.lenOf,j,Builtin.firstCells,loadCells,loadCellsFrom,storeCells];done)|(simp[Builtin.append_,run_underlying f,run_underlying d,Go.sizeOf,typeInfo,al,Builtin.lenOf,j,Builtin.firstCells,loadCells,storeCells,ByteArray.size];done)
theorem apa{d e:Nat}{u x:aL}(h:Rel P gl N g s a w)(af:Nv P N o d e sz sb u x=true)(he:aJ gl s (.r7 d e sz sb u x)=some s'):eu P gl N o g a w s':=by
 simp only[Nv,aKB]at af;obtain⟨hd,aO⟩:=af;split at aO
 ·rename_i k9 C t O aE;obtain⟨xK,cT⟩:=vI (o:=o) aE rfl a.eval;simp only[aKB]at aO;obtain⟨⟨⟨r,ah⟩,hk⟩,Q⟩:=aO
  ·obtain⟨R,b9⟩:=Eh hk;obtain⟨i,z,al,b8,c8,dU,gP,hA⟩:=ra b9;subst b8;have S:=hd;simp only[cZ,aKB,beq_iff_eq,decide_eq_true_eq]at S;have Ih:(sb=true->P.underlying O=some .string/\i.size=1)/\(sb=false->t=O):=by
    cases sb with
    |true=>simp at Q;exact⟨λ_=>⟨UK Q.1,Q.2⟩,(λh=>d6)⟩|false=>simp at Q;exact⟨(λh=>d6),λ_=>Q⟩
   -- the run of the append, whatever is appended
   have VG:∀{v:Value}{n:Nat}{xs:List Value}{ys:List AV}{f:List Value},w.ownsRow 0 e i.size v n xs->0<ys.length->n+ys.length<=M->f.length=ys.length*i.size ->
     (∀q∈f,q.oneCell'=true) ->
     ((sb=false/\∃base cap,a.eval C=.slice base ys.length cap/\(ys=[]\/∃b off,base=some ⟨b,off,none⟩/\∀j u,f[j]?=some u->w.cell? ((⟨b,off,none⟩:Addr).add j)=some u)) \/
      (sb=true/\∃l:List UInt8,a.eval C=.string ⟨l.toArray⟩/\i.size=1/\ys.length=l.length/\f=Lib.strCells ⟨l.toArray⟩)) ->
     ∃H w',(Builtin.append_ #[t,O] o.type #[v,a.eval C]).run P w=.ok H w'/\w'.ownsRow 0 e i.size H (n+ys.length) (xs++f)/\w.heap.size<=w'.heap.size /\
      ((H.ownBlock=v.ownBlock/\v.ownBlock≠none/\∀k,some k≠v.ownBlock->w'.heap[k]?=w.heap[k]?)\/(H.ownBlock=some w.heap.size/\w.heap.size<w'.heap.size/\∀k,k<w.heap.size->w'.heap[k]?=w.heap[k]?))/\((w'.os,w'.tape)=(w.os,w.tape)/\w'.output=w.output):=by
    intro v n xs ys f fM J T Ei mI Nw;rcases Nw with⟨D,base,cap,V,W⟩|⟨D,l,V,av,W,E⟩
    ·have:=Ih.2 D;subst this;rcases W with rfl|⟨b,off,rfl,E⟩
     ·simp at J
     ·rw[V];exact HY (P:=P) (w:=w) (ty:=o.type) (c:=cap) R al dU gP fM Ei E mI J T hA
    ·obtain⟨ax,lf⟩:=Ih.1 D;have qi:(ByteArray.mk l.toArray).size=ys.length:=by rw[W];simp[ByteArray.size]
     have:=ao6 (P:=P) (w:=w) (ty:=o.type) R ax al dU gP lf fM ⟨l.toArray⟩ am am hA;rw[V,E];rw[qi]at this;exact this
   have ob:∀{base:Option Addr}{n c:Nat}{ys:List AV},ys=[]->((sb=false/\∃base cap,a.eval C=.slice base ys.length cap)\/(sb=true/\∃l:List UInt8,a.eval C=.string ⟨l.toArray⟩/\ys.length=l.length))->n<=c->(base=none->n=0/\c=0) ->
     (Builtin.append_ #[t,O] o.type #[.slice base n c,a.eval C]).run P w=.ok (.slice base n c) w:=by
    intro base n c ys ib Nw vV ae;subst ib;rcases Nw with⟨D,b,k,q⟩|⟨D,l,q,av⟩
    ·have:=Ih.2 D;subst this;exact VF R (.inl ⟨_,R⟩) al (.inl ⟨b,k,by simpa using q⟩) vV ae
    ·have:l=[]:=aKY (by simpa using av.symm);subst this;exact VF R (.inr (Ih.1 D).1) al (.inr (by simpa using q)) vV ae
   simp only[aJ]at he;split at he
   ·rename_i oM dW ys aH aR;obtain⟨y,a7,xT⟩:=bind_some aR;split at he
    ·rename_i ae;obtain⟨rfl,rfl,T⟩:=ae;have q:=(dk h r aH).uz;obtain⟨f,ee,c9,X,ts⟩:=VE h (dk h ah a7) xT;split at he
     · -- nothing is appended
      have aw:=ob (base:=none) (n:=0) (c:=0) (ys:=[]) rfl (by
       rcases ts with⟨m1,b,k,F,_⟩|⟨m1,l,F,_,m4,_⟩
       ·exact .inl ⟨m1,b,k,F⟩
       ·exact .inr ⟨m1,l,F,m4⟩) am be
      refine .value h hd he ?_ (.pure _ _ (.aS _)) (λ_ _ _ h=>f9);rw[cT];simp only[builtin,aKG,aKM,q,Sem.run_bind,aw,Result.andThen_ok,Sem.run_pure]
     ·rename_i iE apb;generalize ib:iE::apb=ys at *;have J:0<ys.length:=by rw[<-ib];simp
      obtain⟨H,w',Y,K,Z,L,gQ⟩:=VG (World.ownsRow_nil w 0 e i.size) J (by simpa using T) ee X (by
       omega)
      rcases L with⟨_,G,_⟩|⟨G,gR,tt⟩
      ·exact absurd rfl G
      ·rcases K.2 with⟨rfl,_⟩|⟨nb,cap,m,rfl,_,c1,c2,gv,hB,rh⟩
       ·simp[Value.ownBlock]at G
       ·simp[Value.ownBlock]at G;subst G;obtain⟨g',t1,t2,t3,t4⟩:=h.Nu (w':=w') (nb:=w.heap.size) (us:=f) (c:=cap) (.inl h.Eb) h.vQ (λk hk bJ=>tt k bJ) Z gQ c1 hB (λj u A=>by
         have:(m.toList.take ((0+ys.length)*i.size))[j]?=some u:=by rw[rh];simpa using A
         rw[aKZ]at this;split at this
         ·simpa using this
         ·cases this) c9 X (λc af=>by
         obtain⟨l,aC,j0⟩:=List.mem_flatten.1 af;obtain⟨v,_,rfl⟩:=aKP.1 aC;exact uA c j0) b9 gv
        refine⟨.slice (some ⟨w.heap.size,0,none⟩) (0+ys.length) cap,w',g',.inl ?_,t1,?_⟩
        ·rw[cT];simp only[builtin,aKG,aKM,q,Sem.run_bind,Y,Result.andThen_ok,Sem.run_pure]
        ·rw[S.1];simp only[aKJ];exact t2.put he S.2 (.bI _ _ _ _ _ _ cap t3 t4 be am) (.mE λ_ _ _ h=>f9)
    ·cases he
   ·rename_i id n oM dW ys aH aR;obtain⟨y,a7,xT⟩:=bind_some aR;split at he
    ·rename_i cB cs bW;split at he
     ·rename_i ae;obtain⟨rfl,rfl,rfl,aNY,T⟩:=ae;obtain⟨b,k,cap,V,av,W,E,ev⟩:=(dk h r aH).ti;obtain⟨f,ee,c9,X,ts⟩:=VE h (dk h ah a7) xT;obtain⟨b5,k',aP,x0,aV,⟨arr,bP,c5⟩,i0,z0,fL,iO,oN,v8,wa,VH⟩:=h.heap _ _ bW;rw[V]at aP;simp at aP;subst aP;rw[av]at x0;simp at x0;subst x0;have Nx:=fL;rw[al]at Nx;simp at Nx;subst Nx;obtain⟨ws,c1,c2,gv,hB⟩:=aV.cells (off:=0) (n:=n*i.size);simp only[List.drop_zero]at c1 c2;obtain⟨B,VC,da,eN,fQ,ql,Ny⟩:=aV;rw[bP]at da;simp at da;obtain⟨rfl,rfl⟩:=da;rw[aKJ]at W;have vP:cap<=maxLen:=by
       have:cap*i.size<=maxLen*i.size:=by omega
       exact Nat.le_of_mul_le_mul_right this iO
      have aNZ:n*i.size<=arr.size:=by omega
      have Nz:ws.length=n*i.size:=by
       have:=c2.get.1;simp at this;omega
      have pE:arr.toList.take (n*i.size)=ws:=by
       apply List.ext_getElem?;intro j;rw[aKZ];split
       ·rename_i A;have se:j<ws.length:=by omega
        have h1:=hB j ws[j] (by simp[se]);simp only[World.cell?,bP,aKJ]at h1;rw[aKK se,Array.getElem?_toList];simpa using h1
       ·grind
      have fM:w.ownsRow 0 cB i.size (.slice (some ⟨b,0,none⟩) n cap) n ws:=⟨Nz,.inr ⟨b,cap,arr,rfl,aKS _,bP,E,vP,am,pE⟩⟩;have tj:id<s.heap.length:=(aKC.1 bW).1;have Ns:=h.dead id;have Ii:∀B n',w.heap[b]?≠some (.map B n'):=by simp[bP]
      have apc:∀x∈(cs.take (n*i.size)).map AV.a1++(ys.map λv:AV=>v.cells.map AV.a1).flatten,cY x:=λx ah=>by
       rcases List.mem_append.1 ah with ah|ah
       ·exact uA x ah
       ·obtain⟨l,aC,j0⟩:=List.mem_flatten.1 ah;obtain⟨v,_,rfl⟩:=aKP.1 aC;exact uA x j0
      have hZ:cS g ((cs.take (n*i.size)).map AV.a1++(ys.map λv:AV=>v.cells.map AV.a1).flatten) (ws++f):=c2.a1.append c9;have mI:∀u∈ws++f,u.oneCell'=true:=λu r=>by
       rcases List.mem_append.1 r with r|r
       ·exact gv u r
       ·exact X u r
      have apd:({ s with heap:=s.heap.set id .dead }:au).heap.length=s.heap.length:=by simp
      -- where the result lies
      have wb:∃nb p w' m,(Builtin.append_ #[t,O] o.type #[.slice (some ⟨b,0,none⟩) n cap,a.eval C]).run P w=.ok (.slice (some ⟨nb,0,none⟩) (n+ys.length) p) w'/\(nb=b\/nb=w.heap.size)/\w.heap.size<=w'.heap.size/\((w'.os,w'.tape)=(w.os,w.tape)/\w'.output=w.output) /\
        (∀k,k≠nb->k<w.heap.size->w'.heap[k]?=w.heap[k]?)/\w'.heap[nb]?=some (.cells m cB (0,0))/\n+ys.length<=p/\p<=maxLen/\m.size=p*i.size/\∀(j:Nat)u,(ws++f)[j]?=some u->m[j]?=some u:=by
       by_cases J:0<ys.length
       ·obtain⟨H,w',Y,K,Z,L,gQ⟩:=VG fM J T ee X (by
         omega)
        rcases K.2 with⟨rfl,aK⟩|⟨nb,p,m,rfl,_,d1,d2,d3,d4,d5⟩
        ·omega
        ·refine⟨nb,p,w',m,Y,?_,Z,gQ,?_,d1,d2,d3,d4,λj u A=>?_⟩
         ·rcases L with⟨m1,_⟩|⟨m1,_⟩
          ·left;simpa[Value.ownBlock]using m1
          ·right;simpa[Value.ownBlock]using m1
         ·intro k hk bJ;rcases L with⟨m1,_,m3⟩|⟨m1,_,m3⟩
          ·exact m3 k (by rw[<-m1];simpa[Value.ownBlock]using hk)
          ·exact m3 k bJ
         ·grind
       ·have aK:ys=[]:=aKY am;have aw:=ob (base:=some ⟨b,0,none⟩) (n:=n) (c:=cap) aK (by
         rcases ts with⟨m1,b,k,F,_⟩|⟨m1,l,F,_,m4,_⟩
         ·exact .inl ⟨m1,b,k,F⟩
         ·exact .inr ⟨m1,l,F,m4⟩) E be
        have sc:f=[]:=aKY (by rw[ee,aK];simp);refine⟨b,cap,w,arr,by rw[aw,aK];rfl,.inl rfl,aKE _,⟨rfl,rfl⟩,λ_ _ _=>rfl,bP,by rw[aK];exact E,vP,am,λj u A=>?_⟩;rw[sc,List.append_nil,<-pE,aKZ]at A;split at A
        ·simpa using A
        ·cases A
      obtain⟨nb,p,w',m,Y,K,Z,gQ,L,G,gR,tt,ape,apf⟩:=wb;obtain⟨g',t1,t2,t3,t4⟩:=Ns.Nu (w':=w') (nb:=nb) (sz:=i.size) (us:=ws++f) (c:=p) (by
       rcases K with rfl|rfl
       ·grind
       ·exact .inl h.Eb) (by
       rcases K with rfl|rfl
       ·exact ql
       ·exact h.vQ) L Z gQ G ape apf hZ mI apc b9 tt
      rw[apd]at t3 t4;refine⟨.slice (some ⟨nb,0,none⟩) (n+ys.length) p,w',g',.inl ?_,t1,?_⟩
      ·rw[cT];simp only[builtin,aKG,aKM,ev,Sem.run_bind,Y,Result.andThen_ok,Sem.run_pure]
      ·rw[S.1];exact t2.put he S.2 (.bI _ _ _ _ _ _ p t3 t4 be gR) (.mE λ_ _ _ h=>f9)
     ·cases he
    ·cases he
   ·cases he
 ·cases aO
end
section
variable {P:Program}{gl:cQ}{N:Nat}{g g':bD}{s s':au}{a:Act}{w w':World}{o:Oper}
variable {id:Nat}
theorem Rel.apg(h:Rel P gl N g s a w){b:Nat}{ws:List Value}{ow:eW}(p:s.heap[id]?=some .dead)(ae:g.cg id=some b)(aE:g.bO b=.bM id)(q:∀off,g.γ b off=none)(hm:∀arr n,w.heap[b]?≠some (.map arr n))
  (r:∀(j:Nat)u,ws[j]?=some u->w.cell? ⟨b,j,none⟩=some u):eL g w (g.app b ws ow) w/\Rel P gl N (g.app b ws ow) s a w:=by
 have d:GhLe g (g.app b ws ow):=⟨λk off v c=>by
  have:k≠b:=by rintro rfl;rw[q]at c;cases c
  simpa[bD.app,this]using c,λ_ _ h=>h⟩
 have hk:Kept g w (g.app b ws ow) w λo=>o≠.bM id:=λk hk=>by
  have:k≠b:=by rintro rfl;exact hk aE
  exact⟨by simp[bD.app,this],rfl,λ_=>by simp[bD.app,this]⟩
 refine⟨⟨d,λk l=>?_,aKE _,rfl,rfl⟩,?_⟩
 ·have:k≠b:=by rintro rfl;have:=aE.symm.trans l;cases this
  exact⟨by simpa[bD.app,this]using l,rfl,λ_=>by simp[bD.app,this]⟩
 ·refine⟨h.sorted,h.size,h.defers,λt e he=>(h.env t e he).kept d hk be be be,λm bM f=>?_,λk off v c=>?_,λk hk=>?_,λn x ah=>(h.hf n x ah).mono d.γ,h.ga⟩
  ·by_cases e:m=id
   ·subst e;rw[p]at f;simp at f;subst f;trivial
   ·exact(h.heap m bM f).beside d hk e ae hm (λi al=>by simp[al]) be
  ·by_cases e:k=b
   ·subst e;simp only[bD.app,if_true]at c;exact r off v c
   ·simp only[bD.app,e,if_false]at c;exact h.fI k off v c
  ·by_cases e:k=b
   ·subst e;exact h.own k (by rw[aE];simp)
   ·simp only[bD.app,e,if_false]at hk;exact h.own k hk
variable {e sz:Nat}{v:Value}
theorem NA(h:Rel P gl N g s a w){n:Nat}{cs:List AV}(R:bn g (.bI id 0 n sz) v)(B:s.heap[id]?=some (.buf e cs))(S:ko P e sz=true)(aI:n*sz<=cs.length)(ar:((cs.take (n*sz)).map AV.a1).all AV.eH=true)(bw:n<=M)(ow:eW) :
  ∃g',eL g w g' w/\Rel P gl N g' { s with heap:=s.heap.set id .dead } a w/\dr g'.γ (.list none sz (chunk sz n ((cs.take (n*sz)).map AV.a1))) v /\
   fC P g' w ow (.list (some e) sz (chunk sz n ((cs.take (n*sz)).map AV.a1))) v:=by
 obtain⟨b,k,cap,C,T,V,W,rfl⟩:=R.ti;obtain⟨X,k',l,m,D,⟨arr,f,c5⟩,i0,z0,p,Y,oN,v8,wa,Z⟩:=h.heap _ _ B;rw[C]at l;simp at l;subst l;rw[T]at m;simp at m;subst m;obtain⟨i,z,E,q,F,dU,gP,hA⟩:=ra S;rw[E]at p;simp at p;subst p;obtain⟨ws,c1,r,gv,G⟩:=D.cells (off:=0) (n:=n*sz);simp only[List.drop_zero]at c1 r;obtain⟨H,VC,t,eN,fQ,ql,Ny⟩:=D;rw[f]at t;simp at t;obtain⟨rfl,rfl⟩:=t;rw[aKJ]at V;have tj:id<s.heap.length:=(aKC.1 B).1;have Nz:ws.length=n*sz:=by have:=r.get.1;simp at this;omega
 have hM:∀(j:Nat)u,ws[j]?=some u->w.cell? ⟨b,j,none⟩=some u:=λj u x=>by simpa using G j u x
 obtain⟨J,t2⟩:=(h.dead id).apg (id:=id) (b:=b) (ws:=ws) (ow:=ow) (by simp[tj]) C fQ ql (by simp[f]) hM;have y:fX (g.app b ws ow).γ ((cs.take (n*sz)).map AV.a1) ws:=fX.mono J.γ (r.a1.Mz ar gv);have A:fB (g.app b ws ow).γ b 0 ((cs.take (n*sz)).map AV.a1):=fB.HS y λj u x=>by simp[bD.app,x]
 have d:((cs.take (n*sz)).map AV.a1).length=n*sz:=by simp;omega
 obtain⟨K,c⟩:=MO F n 0 _ d A;refine⟨_,J,t2,.Bv c.symm am am K,?_⟩;intro e0 oM xs ah;simp only[AV.list.injEq,Option.some.injEq]at ah;obtain⟨rfl,rfl,rfl⟩:=ah;have vP:cap<=maxLen:=by
  have:cap*i.size<=maxLen*i.size:=by rw[q];rw[q]at Z;omega
  exact Nat.le_of_mul_le_mul_right this Y
 have pE:arr.toList.take (n*sz)=ws:=by
  apply List.ext_getElem?;intro j;rw[aKZ];split
  ·rename_i a8;have L:j<ws.length:=by omega
   have O:=G j ws[j] (by simp[L]);simp only[World.cell?,f,aKJ]at O;rw[aKK L,Array.getElem?_toList];simpa using O
  ·grind
 refine⟨i,z,ws,E,q,F,dU,gP,hA,am,⟨by rw[c];exact Nz,.inr ⟨b,cap,arr,by rw[c],aKS _,f,by rw[c];exact W,vP,am,by rw[c];exact pE⟩⟩,λX Q=>?_⟩;simp only[Value.ownBlock,Option.some.injEq]at Q;subst Q;refine⟨by simp[bD.app],K,λoff zm=>?_⟩;simp only[bD.app,if_true];rw[List.getElem?_eq_none];rw[c]at zm;omega
def BR(s:au)(t e sz:Nat):Option au:=match Env.get s.env t with
 |some (.v (.bI id 0 n dW))=>match s.heap[id]? with
  |some (.buf cB cs)=>if cB=e/\dW=sz/\n*sz<=cs.length/\((cs.take (n*sz)).map AV.a1).all AV.eH=true/\n<=M then
    some { env:=s.env.ins t (.v (.list (some e) sz (chunk sz n ((cs.take (n*sz)).map AV.a1)))),heap:=s.heap.set id .dead }else none
  |_=>none
 |some (.v _)=>some s|_=>none
def BS(s:au)(t off e sz:Nat):Option au:=match Env.get s.env t with
 |some (.b jg)=>match jg[off]? with
  |some (.bI id 0 n dW)=>match s.heap[id]? with
   |some (.buf cB cs)=>if cB=e/\dW=sz/\n*sz<=cs.length/\((cs.take (n*sz)).map AV.a1).all AV.eH=true/\n<=M then
     some { env:=s.env.ins t (.b (jg.set off (.list none sz (chunk sz n ((cs.take (n*sz)).map AV.a1))))),heap:=s.heap.set id .dead }else none
   |_=>none
  |some _=>some s|none=>none
 |_=>none
variable {t:Nat}{x y:AV}
theorem Rel.apj(h:Rel P gl N g s a w)(i:s.env.get t=some (.v x))(j:a.tmps[t]?=some v)(k:bn g y v)(aE:fC P g w (.var t) y v):Rel P gl N g { s with env:=s.env.ins t (.v y) } a w:=by
 refine⟨Env.et.ins h.sorted t _,h.size,h.defers,λu e he=>?_,h.heap,h.fI,h.own,h.hf,h.ga⟩;simp only at he ⊢;rw[Env.hW]at he;split at he
 ·rename_i f;subst f;simp at he;subst he;exact⟨v,j,k,aE⟩
 ·rename_i f;have c:=h.env u e he;cases e with
  |v y=>exact c|b cs=>exact c|a l off =>
   obtain⟨⟨cs,d⟩,p⟩:=c;refine⟨⟨cs,?_⟩,p⟩;rw[Env.hW];have:l≠t:=by rintro rfl;rw[i]at d;simp at d
   simp[this,d]
theorem Rel.q6(h:Rel P gl N g s a w)(c:ko P e sz=true)(he:BR s t e sz=some s'):∃g',eL g w g' w/\Rel P gl N g' s' a w:=by
 unfold BR at he;split at he
 ·rename_i id n u b;split at he
  ·rename_i z cs d;split at he
   ·rename_i ae;obtain⟨rfl,rfl,f,i,j⟩:=ae;simp only[Option.some.injEq]at he;subst he;obtain⟨v,k,l,_⟩:=h.env _ _ b;obtain⟨g',m,p,q,r⟩:=NA h l d c f i j (.var t);exact⟨g',m,p.apj b k (.own _ _ _ _ q) r⟩
   ·cases he
  ·cases he
 ·simp at he;subst he;exact⟨g,.refl _ _,h⟩
 ·cases he
variable {off:Nat}
theorem Rel.apk(h:Rel P gl N g s a w){j:List AV}(n:s.env.get t=some (.b j))(ah:j[off]?=some x)(q:∀v,bn g x v->bn g y v)(r:cY y):Rel P gl N g { s with env:=s.env.ins t (.b (j.set off y)) } a w:=by
 refine⟨Env.et.ins h.sorted t _,h.size,h.defers,λu e he=>?_,h.heap,h.fI,h.own,h.hf,h.ga⟩;simp only at he ⊢;rw[Env.hW]at he;split at he
 ·rename_i l;subst l;simp at he;subst he;obtain⟨b,z,arr,A,B,C,D,E,m⟩:=h.env _ _ n;refine⟨b,z,arr,A,B,by simpa using C,D,E,λi c d=>?_⟩;rw[aKO]at d;split at d
  ·rename_i f;subst f;split at d
   ·simp at d;subst d;obtain⟨v,F,G,H,L⟩:=m _ _ ah;exact⟨v,F,G,q v H,r.gG⟩
   ·cases d
  ·exact m i c d
 ·rename_i l;have k:=h.env u e he;cases e with
  |v y=>exact k|b cs=>exact k|a J off =>
   obtain⟨⟨cs,K⟩,p⟩:=k;refine⟨?_,p⟩;rw[Env.hW];by_cases f:J=t
   ·simp[f]
   ·simp[f,K]
theorem Rel.ta(h:Rel P gl N g s a w)(i:ko P e sz=true)(he:BS s t off e sz=some s'):∃g',eL g w g' w/\Rel P gl N g' s' a w:=by
 unfold BS at he;split at he
 ·rename_i H j;split at he
  ·rename_i id n p ah;split at he
   ·rename_i J cs q;split at he
    ·rename_i ae;obtain⟨rfl,rfl,r,u,z⟩:=ae;simp only[Option.some.injEq]at he;subst he;obtain⟨b,K,arr,L,c,k,l,O,A⟩:=h.env _ _ j;obtain⟨v,Q,R,m,S⟩:=A _ _ ah;obtain⟨g',c,k,l,_⟩:=NA h m q i r u z .DZ;refine⟨g',c,k.apk (s:={ s with heap:=s.heap.set id .dead }) j ah (λT B=>?_) (cY.none _ _)⟩;have C:=m.mono c.toGhLe;obtain⟨_,_,_,_,_,V,_⟩:=ra i;obtain⟨W,X,D,m1,E,Y,Z,rfl⟩:=C.ti;obtain⟨en,cO,F,d,f,fP,ts,rfl⟩:=B.ti;rw[m1]at d;simp at d;subst d;rw[E]at f;simp at f;subst f;have G:D=F:=Nat.eq_of_mul_eq_mul_right (show 0<p by omega) am;subst G;exact .pure _ _ l
    ·cases he
   ·cases he
  ·simp at he;subst he;exact⟨g,.refl _ _,h⟩
  ·cases he
 ·cases he
end
end AM
