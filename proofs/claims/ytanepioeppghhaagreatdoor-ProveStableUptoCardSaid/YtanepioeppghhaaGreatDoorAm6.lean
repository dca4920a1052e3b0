/- An abstract machine, and what of the given program it does, part 7. Conditions: none. -/
import Derived.Test.YtanepioeppghhaaGreatDoorAm5
import Derived.Maps.RangeRun
set_option linter.unusedVariables false
namespace AM
open List renaming getElem_of_mem -> aKg,pairwise_iff_getElem -> aKh,mem_of_getElem? -> aKk,getElem?_eq_getElem -> aKm,getElem_mem -> aKn
open Bool renaming and_eq_true -> aKi,false_eq_true -> aKj
open Nat renaming le_refl -> aKl
open Go Go.Maps Go.ChangeMaps
section
variable {P:Program}{gl:cp}{N:Nat}{g g':bo}{s s':an}{a:Act}{w w':World}{o:Oper}{γ eQ:e4}
theorem ajm{c d:AV}{u:Value}(b:(match c with|.str _|.int _ _|.bool _=>true|_=>false)=true)(hd:(match d with|.str _|.int _ _|.bool _=>true|_=>false)=true)(e:df γ c u)(U:df eQ d u):c=d:=by
 cases c<;>simp at b<;>cases d<;>simp at hd<;>cases e<;>cases U<;>rfl
theorem Sp:∀{us:List Value}{xs ys:List AV},(xs.all fun|.str _|.int _ _|.bool _=>true|_=>false)=true->(ys.all fun|.str _|.int _ _|.bool _=>true|_=>false)=true->fB γ xs us->fB eQ ys us->xs=ys
 |[],_,_,_,_,h1,U=>by cases h1;cases U;rfl|u::us,xs,ys,ah,b,h1,U=>by
  cases h1 with
  |cons c cs _ _ _ e f =>
   cases U with
   |cons d hE _ _ _ h i =>
    rw[List.all_cons,aKi]at ah b;rw[ajm ah.1 b.1 e h,Sp ah.2 b.2 f i]
variable {x y:AV}{v:Value}
theorem Sq(ah:hD x=true)(c:hD y=true)(b:df γ x v)(U:df eQ y v):x=y:=by
 cases x<;>simp only[hD,aKj]at ah<;>cases y<;>simp only[hD,aKj]at c
 case agg.agg cs hE =>
  cases b with
  |agg _ us p=>
   generalize d:Value.agg us.toArray=v at U;cases U with
   |agg _ vs q =>
    have:us=vs:=by simpa using d
    subst this;rw[Sp ah c p q]
 all_goals first|(cases b;cases U;rfl)|(cases b;cases U)
theorem Sr:∀{cs:List AV},(cs.all fun|.str _|.int _ _|.bool _=>true|_=>false)=true->eqs cs cs=some true
 |[],_=>rfl|c::cs,h=>by
  rw[List.all_cons,aKi]at h;have:=Sr h.2;cases c<;>simp at h<;>simp[eqs,qj,this]
theorem Ss:∀{cs hE:List AV},eqs cs hE=some true->cs=hE
 |[],[],_=>rfl|[],_::_,h=>by simp[eqs]at h|_::_,[],h=>by simp[eqs]at h|c::cs,d::hE,h=>by
  simp only[eqs]at h;split at h
  ·rename_i p q ao b;simp only[Option.some.injEq,aKi]at h;rw[h.2]at b;have:=Ss b;subst this;rw[h.1]at ao;have:c=d:=by
    cases c<;>cases d<;>simp[qj]at ao
    ·rw[ao]
    ·rw[ao.1,ao.2]
    ·rw[ao]
   rw[this]
  ·cases h
theorem K5(ah:hD x=true)(b:hD y=true)(h:dB x y=true):x=y:=by
 cases x<;>simp only[hD,aKj]at ah<;>cases y<;>simp only[hD,aKj]at b<;>simp only[dB,aKj]at h
 ·grind
 ·simp only[beq_iff_eq]at h;rw[h]
 ·simp only[beq_iff_eq]at h;rw[Ss h]
theorem Av(h:hD x=true):dB x x=true:=by
 cases x<;>simp only[hD,aKj]at h
 ·simp[dB]
 ·simp[dB]
 ·simp only[dB,Sr h];rfl
theorem bb.hD(ah:AM.hD x=true)(h:bb g x v):df γ x v:=by
 cases x<;>simp only[AM.hD,aKj]at ah
 ·have:=h.jF;subst this;exact .int _ _
 ·obtain⟨rfl,e⟩:=h.lV;exact .str _ e
 ·rename_i cs;obtain⟨ws,rfl,d,U⟩:=h.nW;refine .agg _ _ ?_;clear h;induction ws generalizing cs with
  |nil=>cases d;exact .nil|cons w ws ih =>
   cases d with
   |cons c cs _ _ b f =>
    rw[List.all_cons,aKi]at ah;refine .cons _ _ _ _ (U w (by simp)) ?_ (ih cs ah.2 f (fun x ah=>U x (by simp[ah])));cases c<;>simp at ah
    ·have:=b.nV;subst this;exact .bool _
    ·have:=b.jF;subst this;exact .int _ _
    ·obtain⟨rfl,h⟩:=b.lV;exact .str _ h
def CU(P:Program)(N:Nat)(o:Oper)(d:Nat)(m:aI):Bool:=cB N o d &&
 (match o.op with|.range t fx=>ds fx m&&(match P.underlying t with|some (.map _ _)=>true|_=>false)|_=>false)
variable {t ei hc:TypeId}
theorem run_range_map{b n:Nat}{arr:Array MapEntry}(c:P.underlying t=some (.map ei hc))(ae:w.heap[b]?=some (.map arr n)) :
  (Instr.range t (.map (some b))).run P w=.ok (ptrTo w.heap.size 0) (w.alloc (.mapIter (some b) n #[] n)):=by
 simp only[Instr.range,Sem.run_bind,run_underlying c,Result.andThen_ok,MapKept.run_getObj_map ae,Sem.run_pure,newObj,Sem.run,ptrTo];rfl
theorem ajn(b:P.underlying t=some (.map ei hc)):(Instr.range t (.map none)).run P w=.ok (ptrTo w.heap.size 0) (w.alloc (.mapIter none 0 #[] 0)):=by
 simp only[Instr.range,Sem.run_bind,run_underlying b,Result.andThen_ok,Sem.run_pure,newObj,Sem.run,ptrTo];rfl
variable {d:Nat}
theorem ajo{m:aI}(h:Rel P gl N g s a w)(S:CU P N o d m=true)(he:aH gl s (.q5 d m)=some s'):dR P gl N o g a w s':=by
 simp only[CU,aKi]at S;obtain⟨hd,c⟩:=S;split at c
 ·rename_i t fx aA;simp only[aKi]at c;obtain⟨hm,c⟩:=c;split at c
  ·rename_i ei hc T;simp only[cB,aKi,beq_iff_eq,decide_eq_true_eq]at hd;simp only[aH]at he;split at he
   ·rename_i id z;split at he
    ·rename_i n es bM;obtain⟨b,B,arr,l,C,⟨cX,p,gK,V⟩,W,X,wN,ks,f⟩:=h.heap _ _ bM;obtain⟨bU,D,au⟩:=(c9 h hm z).uI;rw[B]at D;simp at D;subst D;have A:jI P g w id b n es ks arr cX:=⟨l,C,p,gK,V,W,X,wN,f⟩;have Y:b<w.heap.size:=h.own b (by rw[C];simp);obtain⟨g',E,F,G⟩:=h.KM (.mapIter (some b) n #[] n) (.iter (some id) n []) (fun g' r U H=>by
      have J:g'.bD b=.bA id:=by rw[r];simp[bo.iO,show b≠w.heap.size by omega,C]
      have sk:=h.fE id b B;refine⟨w.heap.size,_,H,heap_alloc_new w _,by rw[r];simp[bo.iO],U.b4 _ _ B,J,rfl,rfl,?_,arr,n,by rw[heap_alloc_old w _ (h:=Y)];exact l,aKl _⟩;have K:∀x∈List.zipWith (fun(e:AV×AV)(m:MapEntry)=>(e.1,m.born)) cX arr.toList,∃(i:Nat)(e:AV×AV)(m:MapEntry),cX[i]?=some e/\arr.toList[i]?=some m/\x=(e.1,m.born):=by
       intro x ah;obtain⟨i,ak,L⟩:=aKg ah;have nk:=ak;simp only[List.length_zipWith]at nk;refine⟨i,cX[i]'(by omega),arr.toList[i]'(by omega),by simp[show i<cX.length by omega],aKm _,?_⟩;rw[<-L];simp
      refine⟨List.zipWith (fun(e:AV×AV)(m:MapEntry)=>(e.1,m.born)) cX arr.toList,?_,?_,by simp,by simp,?_⟩
      ·rw[aKh];intro i j ak aZ Z;simp only[List.length_zipWith]at ak aZ;simp only[List.getElem_zipWith];refine⟨?_,?_⟩
       ·have cc:cX.Pairwise fun x y=>x.1≠y.1:=(p.symm.pairwise_iff (fun{x y}(h:x.1≠y.1)=>h.symm)).1 A.ne;have aL:=aKh.1 cc i j (by omega) (by omega) Z;cases a7:dB cX[i].1 cX[j].1 with
        |false=>rfl|true =>
         have O:=p.mem_iff.1 (aKn (show i<cX.length by omega));have Q:=p.mem_iff.1 (aKn (show j<cX.length by omega));obtain⟨_,m1,_,_,cY⟩:=A.uX O;obtain⟨_,m2,_,_,c4⟩:=A.uX Q;exact absurd ((CQ (f _ O) (f _ Q) (bb.key (γ:=g.γ) (f _ O) cY.1) (bb.key (γ:=g.γ) (f _ Q) c4.1)).1 a7) aL
       ·have:=aKh.1 W i j (by omega) (by omega) Z;omega
      ·intro x ah;obtain⟨i,e,m,u,k,rfl⟩:=K x ah;exact⟨X m (aKk k),(V i e m u k).2.1⟩
      ·intro ri R m iw;rw[heap_alloc_old w _ (h:=Y),l]at R;simp at R;subst R;obtain⟨i,e,u,k,dO,fv⟩:=A.other iw;refine⟨e.1,?_,bb.hD fv.2.1 fv.1⟩;have kp:=(List.getElem?_eq_some_iff.1 u).1;have nY:=(List.getElem?_eq_some_iff.1 k).1;refine aKk (i:=i) ?_;rw[List.getElem?_zipWith,u,k])
     refine⟨ptrTo w.heap.size 0,_,g',.inl ?_,E,?_⟩
     ·simp only[execOp,aA,au,Sem.run_bind,run_range_map T l,Result.andThen_ok,Sem.run_pure]
     ·rw[hd.1];exact F.put he hd.2 (.ptr _ 0 _ G) (uL _ _).gb
    ·cases he
   ·rename_i z;have q:=(c9 h hm z).JW;obtain⟨g',E,F,G⟩:=h.KM (.mapIter none 0 #[] 0) (.iter none 0 []) (fun g' r U H=>⟨w.heap.size,_,H,heap_alloc_new w _,by rw[r];simp[bo.iO],trivial⟩);refine⟨ptrTo w.heap.size 0,_,g',.inl ?_,E,?_⟩
    ·simp only[execOp,aA,q,Sem.run_bind,ajn T,Result.andThen_ok,Sem.run_pure]
    ·rw[hd.1];exact F.put he hd.2 (.ptr _ 0 _ G) (uL _ _).gb
   ·cases he
  ·cases c
 ·cases c
theorem K9{k v:AV}:∀{es:List (AV×AV)},gG es k=some v->∃k',(k',v)∈es/\dB k k'=true
 |[],h=>by simp[gG]at h|(k',e)::r,h=>by
  simp only[gG]at h;split at h
  ·grind
  ·obtain⟨b,c,U⟩:=K9 h;exact⟨b,by simp[c],U⟩
def Gi(N:Nat)(o:Oper)(d:Nat)(it:aI):Bool:=cB N o d&&(match o.op with|.next rm false=>ds rm it|_=>false)
def Gj(N:Nat)(o:Oper)(d:Nat)(it:aI):Bool:=cB N o d&&(match o.op with|.entry rm=>ds rm it|_=>false)
variable {it:aI}
theorem St(h:Rel P gl N g s a w)(V:Gj N o d it=true)(he:aH gl s (.nR d it)=some s') :
  ∃x v,cB N o d=true/\s.put d x=some s'/\bb g x v/\cP x/\(execOp a.eval o).run P w=.ok (.value v) w:=by
 simp only[Gj,aKi]at V;obtain⟨hd,j⟩:=V;split at j
 ·rename_i rm aA;simp only[aH]at he;split at he
  ·rename_i id c;split at he
   ·rename_i l since seen bM;split at he
    ·rename_i n es k uC p;split at he
     ·rename_i aL;subst aL;obtain⟨v,aC,he⟩:=bind_some he;obtain⟨r,bA,aK,W,bH,q⟩:=h.heap _ _ bM;obtain⟨bU,u,t2⟩:=(c9 h j c).sh;rw[aK]at u;simp at u;subst u;obtain⟨X,m1,b,z,m3,⟨cX,m4,m5,m6⟩,m7,m8,m9,ks,B⟩:=h.heap _ _ uC;have A:jI P g w l X n es ks b cX:=⟨z,m3,m4,m5,m6,m7,m8,m9,B⟩;cases bA<;>simp only[pw]at q;rename_i mp pz C last;cases mp with
      |none=>exact q.elim|some bj =>
       obtain⟨D,c2,rfl,rfl,qs,_⟩:=q;rw[m1]at D;simp at D;subst D;obtain⟨L,Y,E,ez,kN,oP⟩:=qs
       -- the last of what was seen
       have cc:seen≠[]:=by rintro rfl;simp at p
       have Z:0<seen.length:=List.length_pos_iff.2 cc;have rf:seen[seen.length-1]?=some k:=by grind
       have F:∃bs,C.toList[seen.length-1]?=some bs:=by grind
       obtain⟨bs,G⟩:=F;have Sv:=kN _ _ _ rf G
       -- the entry at that key
       have rh:=K9 aC;obtain⟨k',hr,H⟩:=rh;obtain⟨i,m,J,e,f⟩:=A.uX hr;obtain⟨K,O,La⟩:=oP _ z m (aKk e);have kI:K=k':=Sq (E _ O).2 f.2.1 La (bb.hD (γ:=fun _ _=>none) f.2.1 f.1);subst kI
       -- one pair of the list
       have Q:(k,bs)=(K,m.born):=by
        obtain⟨R,J,c⟩:=aKg Sv;obtain⟨S,e,T⟩:=aKg O;rcases Nat.lt_trichotomy R S with U|rfl|U
        ·have:=(aKh.1 Y R S J e U).1;rw[c,T]at this;simp only at this;rw[H]at this;cases this
        ·rw[<-c,<-T]
        ·have:=(aKh.1 Y S R e J U).1;rw[c,T]at this;simp only at this;have e1:k=K:=K5 (E _ Sv).2 (E _ O).2 H;subst e1;have rn:dB k k=true:=H;rw[rn]at this;cases this
       obtain⟨rfl,rfl⟩:=Prod.mk.inj Q;have Lb:C=(C.pop).push m.born:=by grind
       refine⟨_,_,hd,he,.a8 _ [m.key,m.val] (.cons _ _ _ _ f.1 (.cons _ _ _ _ f.2.2.1.aW .nil)),(fun _ _ _ h=>by simp at h),?_⟩;rw[Lb]at W;have oQ:(b.toList.map (·.born)).Nodup:=by grind
       have:=run_entry_at (P:=P) w r X _ _ b _ m W z (aKk e) oQ;simp only[execOp,aA,t2,ptrTo,Sem.run_bind,this,Result.andThen_ok,Sem.run_pure]
     ·cases he
    ·cases he
   ·cases he
  ·cases he
 ·cases j
theorem ajw(h:Rel P gl N g s a w)(b:Gj N o d it=true)(he:aH gl s (.nR d it)=some s'):dR P gl N o g a w s':=by
 obtain⟨x,v,c,e,f,i,j⟩:=St h b he;exact .value h c e j f i
theorem Sw{rm:Operand}{id since:Nat}{Sx:Option Nat}{n4:List AV}{es:List (AV×AV)}(h:Rel P gl N g s a w)(aA:o.op=.next rm false)(oR:ds rm it=true)
  (q:bg gl s.env it=some x)(f:q8 s.heap x=some (id,Sx,since,n4,es)) :
  (es=[]/\(execOp a.eval o).run P w=.ok (.value (.tuple #[.bool false])) w) \/
  ∃e∈es,∃w' v,(execOp a.eval o).run P w=.ok (.value v) w'/\ef g w g w'/\bb g (.a8 [.bool true,e.1,e.2.aW]) v/\Rel P gl N g { s with heap:=s.heap.set id (.iter Sx since (n4++[e.1])) } a w'/\∀r,g.b4 id=some r->w.grownBy w' (some r):=by
 have cu:∀v r w',(a.eval rm)=v->(Instr.next v false o.type).run P w=.ok r w'->(execOp a.eval o).run P w=.ok (.value r) w':=by
  intro v r w' ar z;simp only[execOp,aA,ar,Sem.run_bind,z,Result.andThen_ok,Sem.run_pure]
 unfold q8 at f;split at f
 ·rename_i Aw;obtain⟨r,O,mH⟩:=(c9 h oR q).sh;split at f
  ·rename_i ajx Q bM;simp at f;obtain⟨rfl,rfl,rfl,rfl,rfl⟩:=f;obtain⟨r',bA,D,B,bH,G⟩:=h.heap _ _ bM;rw[O]at D;simp at D;subst D;cases bA<;>simp only[pw]at G;rename_i mp pz c last;cases mp with
   |some bj=>exact G.elim|none =>
    refine .inl ⟨rfl,cu _ _ _ mH ?_⟩;simp[Instr.next,ptrTo,getObj,Sem.run,B]
  ·rename_i R ajx Q bM;split at f
   ·rename_i n ajy uC;split at f
    ·rename_i aL;simp at f;obtain⟨rfl,rfl,rfl,rfl,rfl⟩:=f;subst aL;obtain⟨r',bA,D,B,bH,G⟩:=h.heap _ _ bM;rw[O]at D;simp at D;subst D;obtain⟨bj,m1,arr,S,m3,⟨cX,m4,m5,m6⟩,m7,m8,m9,ks,m10⟩:=h.heap _ _ uC;have A:jI P g w R bj n ajy ks arr cX:=⟨S,m3,m4,m5,m6,m7,m8,m9,m10⟩;cases bA<;>simp only[pw]at G;rename_i mp pz c last;cases mp with
     |none=>exact G.elim|some n5 =>
      obtain⟨c1,c2,rfl,rfl,qs,Gk⟩:=G;rw[m1]at c1;simp at c1;subst c1;obtain⟨L,T,V,ez,kN,oP⟩:=qs;have ajz:∀k i j,(k,i)∈L->(k,j)∈L->i=j:=by
       intro k i j l U;obtain⟨E,W,q⟩:=aKg l;obtain⟨F,X,p⟩:=aKg U;rcases Nat.lt_trichotomy E F with u|rfl|u
       ·have:=(aKh.1 T E F W X u).1;rw[q,p]at this;simp only[Av (V _ l).2]at this;cases this
       ·rw[q]at p;simpa using p
       ·have:=(aKh.1 T F E X W u).1;rw[q,p]at this;simp only[Av (V _ l).2]at this;cases this
      have ajA:∀k k' i,(k,i)∈L->(k',i)∈L->k=k':=by
       intro k k' i l U;obtain⟨E,W,q⟩:=aKg l;obtain⟨F,X,p⟩:=aKg U;rcases Nat.lt_trichotomy E F with u|rfl|u
       ·have:=(aKh.1 T E F W X u).2;rw[q,p]at this;simp at this
       ·rw[q]at p;simp at p;exact p
       ·have:=(aKh.1 T F E X W u).2;rw[q,p]at this;simp at this
      -- an entry is left on one side where it is on the other
      have Ax:∀(i:Nat)e m,cX[i]?=some e->arr.toList[i]?=some m->(e.1,m.born)∈L/\(c.contains m.born=Q.any (dB e.1)):=by
       intro i e m l U;have z:=m6 i e m l U;obtain⟨c4,qt,La⟩:=oP _ S m (aKk U);have kI:c4=e.1:=Sq (V _ qt).2 z.2.1 La (bb.hD (γ:=fun _ _=>none) z.2.1 z.1);subst kI;refine⟨qt,?_⟩;rw[Bool.eq_iff_iff];constructor
       ·intro af;have j5:m.born∈c.toList:=by simpa using af
        obtain⟨j,aZ,Lc⟩:=aKg j5;have Y:j<Q.length:=by omega
        have cg:=kN j Q[j] m.born (by simp[Y]) (by rw[aKm aZ,Lc]);have:=ajA _ _ _ cg qt;rw[List.any_eq_true];exact⟨Q[j],aKn Y,by rw[this];exact Av z.2.1⟩
       ·intro af;rw[List.any_eq_true]at af;obtain⟨k,hk,CS⟩:=af;obtain⟨j,aZ,Lc⟩:=aKg hk;have Y:j<c.toList.length:=by omega
        have cg:=kN j k c.toList[j] (by rw[aKm aZ,Lc]) (aKm Y);have kI:e.1=k:=K5 z.2.1 (V _ cg).2 CS;rw[<-kI]at cg;have:=ajz _ _ _ cg qt;have:m.born∈c.toList:=by rw[<-this];exact aKn Y
        simpa using this
      have Z:∀x∈arr.toList,x.born<last:=m8;rcases run_next_at (P:=P) w o.type r bj last last c arr last B S Z (aKl _)with⟨bJ,Gl⟩|⟨m,hm,cv,rq,Gl⟩
      ·refine .inl ⟨?_,cu _ _ _ mH (by simpa[ptrTo]using Gl)⟩;rw[List.filter_eq_nil_iff];intro e he;obtain⟨i,m,l,U,z⟩:=A.uX he;obtain⟨_,ai⟩:=Ax i e m l U;rw[<-ai];have CX:leftOf arr c=#[]:=Array.eq_empty_of_size_eq_zero bJ;unfold leftOf at CX;rw[Array.filter_eq_empty_iff]at CX;have:=CX m (by have:=aKk U;simpa using this);simpa using this
      ·have qp:m∈arr.toList/\c.contains m.born=false:=by
        unfold leftOf at hm;simp at hm;refine⟨by simpa using hm.1,by simpa using hm.2⟩
       obtain⟨i,e,l,U,ai,aY⟩:=A.other qp.1;obtain⟨bW,dO⟩:=Ax i e m l U;have mF:g.bD r=.bA Aw:=bH;have cc:Aw≠R:=by grind
       have ajB:r≠bj:=by
        rintro rfl;rw[S]at B;cases B
       have H:∀k,k≠r->(setBlock cv r (.mapIter (some bj) last (c.push m.born) last)).heap[k]?=w.heap[k]?:=by
        intro k hk;have:cv.heap=w.heap:=by rcases rq with rfl|rfl<;>rfl
        simp only[setBlock,this];simp[Array.getElem?_setIfInBounds_ne (Ne.symm hk)]
       have Sy:(setBlock cv r (.mapIter (some bj) last (c.push m.born) last)).heap[r]?=some (.mapIter (some bj) last (c.push m.born) last):=by
        have:cv.heap=w.heap:=by rcases rq with rfl|rfl<;>rfl
        have u:r<w.heap.size:=(Array.getElem?_eq_some_iff.1 B).1;simp[setBlock,this,u]
       have Gm:(setBlock cv r (.mapIter (some bj) last (c.push m.born) last)).heap.size=w.heap.size:=by
        have:cv.heap=w.heap:=by rcases rq with rfl|rfl<;>rfl
        simp[setBlock,this]
       have J:((setBlock cv r (.mapIter (some bj) last (c.push m.born) last)).os,(setBlock cv r (.mapIter (some bj) last (c.push m.born) last)).tape)=(w.os,w.tape)/\(setBlock cv r (.mapIter (some bj) last (c.push m.born) last)).output=w.output:=by
        rcases rq with rfl|rfl<;>exact⟨rfl,rfl⟩
       generalize aGA:setBlock cv r (.mapIter (some bj) last (c.push m.born) last)=wd at H Sy Gm Gl J;have aC:GhLe g g:=⟨fun _ _ _ h=>h,fun _ _ h=>h⟩;have hk:Kept g w g wd fun o=>o≠.bA Aw:=fun k hk=>⟨rfl,H k (fun e=>hk (by rw[e,mF])),fun _=>rfl⟩;refine .inr ⟨e,?_,wd,_,cu _ _ _ mH (by simpa[ptrTo]using Gl),⟨aC,fun k hk=>⟨hk,H k (fun e=>by rw[e,mF]at hk;cases hk),fun _=>rfl⟩,by rw[Gm];exact aKl _,J.1,J.2⟩,?_,?_,fun r' mC=>by rw[O]at mC;simp at mC;subst mC;exact⟨congrArg Prod.fst J.1,congrArg Prod.snd J.1,J.2,by rw[Gm];exact aKl _,fun k _ hk=>H k (fun e=>hk (by rw[e]))⟩⟩
       ·grind
       ·exact .a8 _ [.bool true,m.key,m.val] (.cons _ _ _ _ (.pure _ _ (.bool _)) (.cons _ _ _ _ aY.1 (.cons _ _ _ _ aY.2.2.1.aW .nil)))
       ·refine⟨h.sorted,h.size,h.defers,fun t e he=>(h.env t e he).kept aC hk (by simp) (by simp) (by simp),fun fH bA C=>?_,fun k off v ar=>?_,fun k hk=>by rw[Gm];exact h.own k hk,h.gz,fun i b ak=>by simpa using h.fE i b ak⟩
        ·simp only at C;rw[List.getElem?_set]at C;split at C
         ·rename_i K;subst K;split at C
          ·simp at C;subst C;refine⟨r,_,O,Sy,mF,m1,c2,rfl,rfl,⟨L,T,V,by simp[ez],fun i k h2 jG jJ=>?_,fun ri aE fx aGB=>?_⟩,arr,last,by rw[H bj (Ne.symm ajB)];exact S,aKl _⟩
           ·grind
           ·grind
          ·cases C
         ·rename_i K;exact(h.heap fH bA C).beside aC hk (fun h=>K h.symm) O (by simp[B]) (by simp) (by simp)
        ·have dU:=h.ff k off v ar;by_cases K:k=r
         ·subst K;unfold World.cell? at dU;rw[B]at dU;simp at dU
         ·unfold World.cell? at dU ⊢;rw[H k K];exact dU
    ·cases f
   ·cases f
  ·cases f
 ·cases f
end
end AM
