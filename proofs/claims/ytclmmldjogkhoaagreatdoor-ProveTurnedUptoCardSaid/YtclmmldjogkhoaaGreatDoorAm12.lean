/- An abstract machine, and what of the given program it does, part 13. Conditions: none. -/
import Derived.Test.YtclmmldjogkhoaaGreatDoorAm11
import Derived.RangeFuncNested
import Derived.RangeFuncLeaves
set_option linter.unusedVariables false
namespace AM
open Bool renaming and_eq_true -> I9
open Array renaming getElem?_eq_some_iff -> Ja
open Nat renaming reduceEqDiff -> LW
open Go Go.RowKit
section
variable {P:Program}{gl:cp}{N:Nat}{g g':bo}{s s':an}{a:Act}{w w':World}{F:Fence}{n:Nat}{Q:Exit->Act->World->Prop}{ops:Array Oper}{rest:List Oper}{o:Oper}
def vh(sz:Nat)(x:Value):Prop:=x.cells.size=sz/\(∀c∈x.cells.toList,c.oneCell'=true)/\(sz=1->x.cells=#[x])/\(sz≠1->x=.agg x.cells)
def flat(xs:List Value):List Value:=(xs.map (·.cells.toList)).flatten
theorem amT(xs:List Value)(x:Value):flat (xs++[x])=flat xs++x.cells.toList:=by simp[flat]
structure sC(e sz Mg:Nat)(w0:World)(xs:List Value)(W:World):Prop where
 below:Below w0.heap.size w0 W
 box:∃v,W.heap[w0.heap.size]?=some (.cells #[v] Mg (0,0))/\W.ownsRow (w0.heap.size+1) e sz v xs.length (flat xs)/\(xs=[]->v=.slice none 0 0)
 elems:∀x∈xs,vh sz x
theorem sC.own(e sz i:Nat)(w0:World):OwnFrom (w0.heap.size+1) (sC e sz i w0):=fun xs W q b h c d=>by
 obtain⟨v,f,U,j⟩:=h.box;have ae:some w0.heap.size≠b:=fun e=>by have:=(d _ e.symm).1;omega
 have l:w0.heap.size<W.heap.size:=(Ja.1 f).1;refine⟨h.below.grown c h.below.size (fun k e=>by have:=(d k e).1;omega),⟨v,(c.block _ l ae).trans f,U.kept c ?_,j⟩,h.elems⟩;rcases U.2 with⟨rfl,_⟩|⟨k,cap,m,rfl,_,hk,_⟩
 ·exact .inl rfl
 ·refine .inr fun e=>?_;obtain⟨_,o,aA,p⟩:=d k e.symm;rw[hk]at aA;simp at aA;subst aA;cases p
def Mh(T x:Nat):Op->Bool|.box t (.tmp y)=>t==T&&y==x|_=>false
def Mi:Op->Bool|.assign (.const (.slice none 0 0))=>true|_=>false
def Hc(x:Nat):Op->Bool|.move (.tmp y)=>y==x|_=>false
def Hd(x:Nat):Op->Bool|.assign (.tmp y)=>y==x|_=>false
def yX(T x:Nat):Op->Bool|.load t (.tmp y)=>t==T&&y==x|_=>false
def He(T x v:Nat):Op->Bool|.store t (.tmp y) (.tmp u)=>t==T&&y==x&&u==v|_=>false
def Mj(T:Nat):Op->Bool|.alloc t=>t==T|_=>false
def Mk(T x:Nat):Op->Bool|.buildSlice t n bP=>t==T&&n==1&&(match bP.toList with|[(k,.tmp y)]=>k==0&&y==x|_=>false)|_=>false
def isApp(T x y:Nat)(op:Op):Bool:=match si op with|some (.append,[.tmp u,.tmp v],[t,ix])=>t==T&&ix==T&&u==x&&v==y|_=>false
theorem sD{t:Nat}{v:Value}(h:a.tmps[t]?=some v):a.eval (.tmp t)=v:=by simp[Act.eval,Array.getD_eq_getD_getElem?,h]
section
variable {T x y u:Nat}{v:Value}
theorem amU(h:Mh T x o.op=true)(ah:a.tmps[x]?=some v):(execOp a.eval o).run P w=.ok (.value (ptrTo w.heap.size 0)) (w.alloc (.cells v.cells T)):=by
 unfold Mh at h;split at h
 ·rename_i t b aA;simp only[I9,beq_iff_eq]at h;obtain⟨rfl,rfl⟩:=h;simp only[execOp,aA,sD ah,Sem.run_bind,FZ,Result.andThen_ok,Sem.run_pure]
 ·cases h
theorem amV(h:Mi o.op=true):(execOp a.eval o).run P w=.ok (.value (.slice none 0 0)) w:=by
 unfold Mi at h;split at h
 ·rename_i aA;simp[execOp,aA,Act.eval]
 ·cases h
theorem T7(h:Hc x o.op=true)(ah:a.tmps[x]?=some v):(execOp a.eval o).run P w=.ok (.value v) w:=by
 unfold Hc at h;split at h
 ·rename_i b aA;simp only[beq_iff_eq]at h;subst h;simp[execOp,aA,sD ah]
 ·cases h
theorem T8(h:Hd x o.op=true)(ah:a.tmps[x]?=some v):(execOp a.eval o).run P w=.ok (.value v) w:=by
 unfold Hd at h;split at h
 ·rename_i b aA;simp only[beq_iff_eq]at h;subst h;simp[execOp,aA,sD ah]
 ·cases h
variable {b:Nat}
theorem T9{c:TypeDesc}(h:yX T x o.op=true)(ah:a.tmps[x]?=some (ptrTo b 0))(d:P.underlying T=some c)(f:(∀i,c≠.struct i)/\∀n e,c≠.array n e)
  (j:w.cell? ⟨b,0,none⟩=some v):(execOp a.eval o).run P w=.ok (.value v) w:=by
 unfold yX at h;split at h
 ·rename_i t k aA;simp only[I9,beq_iff_eq]at h;obtain⟨rfl,rfl⟩:=h;simp only[execOp,aA,sD ah,Sem.run_bind,FU d f j,Result.andThen_ok,Sem.run_pure]
 ·cases h
variable {i:TypeInfo}
theorem amW{c:Array Field}{ws:List Value}(h:yX T x o.op=true)(ah:a.tmps[x]?=some (ptrTo b 0))(ak:P.info? T=some i)(d:P.underlying T=some (.struct c))(e:ws.length=i.size)
  (f:∀j v,ws[j]?=some v->w.cell? ⟨b,0+j,none⟩=some v):(execOp a.eval o).run P w=.ok (.value (.agg ws.toArray)) w:=by
 unfold yX at h;split at h
 ·rename_i t k aA;simp only[I9,beq_iff_eq]at h;obtain⟨rfl,rfl⟩:=h;simp only[execOp,aA,sD ah,Sem.run_bind,FT ak d e f (.inl ⟨c,rfl⟩),Result.andThen_ok,Sem.run_pure]
 ·cases h
theorem Ua(h:He T x y o.op=true)(ah:a.tmps[x]?=some (ptrTo b 0))(c:a.tmps[y]?=some v)(ak:P.info? T=some i)(d:v.cells.size=i.size)
  (e:(storeCells ⟨b,0,none⟩ v.cells.toList).run P w=.ok () w'):(execOp a.eval o).run P w=.ok .skip w':=by
 unfold He at h;split at h
 ·rename_i t f j aA;simp only[I9,beq_iff_eq]at h;obtain⟨⟨rfl,rfl⟩,rfl⟩:=h;simp only[execOp,aA,sD ah,sD c,Sem.run_bind,Kh ak d e,Result.andThen_ok,Sem.run_pure]
 ·cases h
theorem amX(h:Mj T o.op=true)(ak:P.info? T=some i)(c:i.zero=some v):(execOp a.eval o).run P w=.ok (.value (ptrTo w.heap.size 0)) (w.alloc (.cells v.cells T)):=by
 unfold Mj at h;split at h
 ·rename_i t aA;simp only[beq_iff_eq]at h;subst h;simp only[execOp,aA,Sem.run_bind,FY ak c,Result.andThen_ok,Sem.run_pure]
 ·cases h
theorem amY{e:Nat}{z:Value}(h:Mk T x o.op=true)(ah:a.tmps[x]?=some v)(d:P.underlying T=some (.slice e))(ak:P.info? e=some i)(f:i.zero=some z)(az:0<i.size)(j:v.cells.size=i.size)(l:i.size<=2 ^ 24) :
  (execOp a.eval o).run P w=.ok (.value (.slice (some ⟨w.heap.size,0,none⟩) 1 1)) (w.alloc (.cells v.cells e)):=by
 unfold Mk at h;split at h
 ·rename_i t n m aA;simp only[I9,beq_iff_eq]at h;obtain⟨⟨rfl,rfl⟩,h⟩:=h;split at h
  ·rename_i k c p;simp only[I9,beq_iff_eq]at h;obtain⟨rfl,rfl⟩:=h;have q:m=#[(0,.tmp c)]:=by apply Array.ext';simpa using p
   subst q;have:=F5 (P:=P) (w:=w) (vs:=[v]) d ak f az (by simpa using j) (by simpa using l);simp only[List.length_cons,List.length_nil,Nat.zero_add,List.zipIdx_cons,List.zipIdx_nil,List.map_cons,List.map_nil,List.flatten_cons,List.flatten_nil,List.append_nil,Array.toArray_toList]at this;simp only[execOp,aA,Sem.run_bind];rw[show(#[((0:Nat),Operand.tmp c)].map fun(x:Nat×Operand)=>(x.1,a.eval x.2))=[(0,v)].toArray by simp[sD ah]];rw[this];rfl
  ·cases h
 ·cases h
end
structure DB(P:Program)(S E sz:Nat)(i:TypeInfo)(z:Value):Prop where
 dg:P.underlying S=some (.slice E)
 amZ:∃j,P.info? S=some j/\j.size=1
 h5:P.info? E=some i
 size:i.size=sz
 pos:0<sz
 le:sz<=2 ^ 24
 zero:i.zero=some z
 Ub:z.cells.size=sz
 bytes:i.bytes<=128
 struct:sz≠1->∃dm,P.underlying E=some (.struct dm)
def am0(sz E B:Nat)(x:Value)(a:Act)(W:World):Prop :=
 (sz=1/\a.tmps[5]?=some x)\/(sz≠1/\∃yY,a.tmps[5]?=some (ptrTo yY 0)/\B<yY/\W.heap[yY]?=some (.cells x.cells E (0,0)))
def A7(N sz E B:Nat)(x:Value)(a:Act)(W:World):Prop:=a.tmps.size=N/\a.defers=[]/\a.tmps[2]?=some (ptrTo B 0)/\am0 sz E B x a W
theorem A7.own(N sz E B C:Nat)(x:Value)(a:Act):OwnFrom C (fun(_:Unit)W=>A7 N sz E B x a W):=fun _ W t d h f i=>by
 obtain⟨j,U,k,l⟩:=h;refine⟨j,U,k,l.imp id fun⟨m,c,p,q,b⟩=>⟨m,c,p,q,(f.block c (Ja.1 b).1 fun e=>?_).trans b⟩⟩;obtain⟨_,o,aA,r⟩:=i _ e.symm;rw[b]at aA;simp at aA;subst aA;cases r
def Mm(N E sz:Nat):List Oper->Bool
 |[vi]=>sz==1&&ig vi&&cB N vi 5&&Hd 7 vi.op|[vi,b0]=>sz != 1&&ig vi&&cB N vi 5&&Mj E vi.op&&ig b0&&b0.dst==none&&He E 5 7 b0.op|_=>false
def Mn(N S E sz:Nat):List Oper->Bool
 |[o0,eg,e7,og,Hf]=>ig o0&&cB N o0 8&&yX S 2 o0.op&&ig eg&&cB N eg 9&&(if sz=1 then Hc 5 eg.op else yX E 5 eg.op)&&ig e7&&cB N e7 10&&Mk S 9 e7.op &&
   ig og&&cB N og 11&&isApp S 8 10 og.op&&ig Hf&&Hf.dst==none&&He S 2 11 Hf.op
 |_=>false
theorem sE{N d:Nat}(h:cB N o d=true):o.dst=some d/\d<N:=by simpa[cB]using h
variable {v:Value}
theorem sF(b:∀f,F.fn f)(ao:ig o=true)(c:(execOp a.eval o).run P w=.ok (.value v) w')(K:wpListIn F n P ops Q rest (a.put o.dst v) w'):wpListIn F n P ops Q (o::rest) a w:=by
 unfold wpListIn;rw[if_pos (ve ao)];refine⟨fun f _=>b f,?_⟩;rw[Oper.semAt_eq _ _ _ (vf ao),c];exact K
theorem Uc(b:∀f,F.fn f)(ao:ig o=true)(hd:o.dst=none)(c:(execOp a.eval o).run P w=.ok .skip w')(K:wpListIn F n P ops Q rest a w'):wpListIn F n P ops Q (o::rest) a w:=by
 unfold wpListIn;rw[if_pos (ve ao)];refine⟨fun f _=>b f,?_⟩;rw[Oper.semAt_eq _ _ _ (vf ao),c];show wpListIn F n P ops Q rest (a.put o.dst undef) w';rw[hd];exact K
theorem Ud{b t:Nat}{cur:Array Value}{us:Array Value}(ae:w.heap[b]?=some (.cells cur t (0,0)))(az:us.size=cur.size)(c:∀v∈us.toList,v.oneCell'=true) :
  (storeCells ⟨b,0,none⟩ us.toList).run P w=.ok () (w.setRow b us):=by
 have:=run_storeCells_at P b 0 t us.toList 0 cur w ae (by simpa using Nat.le_of_eq az) c;simp only[Nat.add_zero,List.take_zero,List.nil_append]at this;rw[this];congr 2
 have U:cur.toList.drop (0+us.toList.length)=[]:=by rw[List.drop_eq_nil_iff];simp;omega
 rw[U];simp
variable {W:World}
theorem am1(b:Nat)(arr:Array Value):W.grownBy (W.setRow b arr) (some b) :=
 ⟨rfl,rfl,rfl,by simp,fun k _ hk=>setRow_other W b k _ (fun e=>hk (by rw[e]))⟩
theorem fN(a:Act)(d t:Nat)(v:Value)(hd:d<a.tmps.size):(a.put (some d) v).tmps[t]?=if t=d then some v else a.tmps[t]?:=sf hd v t
variable {S E sz:Nat}{i:TypeInfo}{z:Value}{w0:World}{xs:List Value}{x:Value}{K:Act->World->Prop}
variable {id:Nat}
theorem am2(d:∀f,F.fn f)(dL:DB P S E sz i z){m:Array Oper}(b:Mm N E sz m.toList=true)(ah:vh sz x)(aE:a.tmps.size=N)(hd:a.defers=[])(A:a.tmps[7]?=some x)
  (U:a.tmps[2]?=some (ptrTo w0.heap.size 0))(fK:sC E sz S w0 xs w)
  (B:∀C c,KeepsFrom (w0.heap.size+1) w c->KeepsWalks w c->sC E sz S w0 xs c->A7 N sz E w0.heap.size x C c->K C c):(Code.region id m false).wpIn F n P (Exit.then K (fun _ _ _=>False)) a w:=by
 refine wpIn_region_list ?_;generalize m.toList=l at b;unfold Mm at b;split at b
 ·rename_i G;simp only[I9,beq_iff_eq]at b;obtain⟨⟨⟨az,p⟩,q⟩,t⟩:=b;obtain⟨u,H⟩:=sE q;refine sF d p (T8 t A) (wpListIn_nil ?_);rw[u];refine B _ _ (KeepsFrom.refl _ _) (KeepsWalks.refl _) fK ⟨by simp[Act.put,aE],hd,by rw[fN _ _ _ _ (by omega)];simpa using U,.inl ⟨az,by rw[fN _ _ _ _ (by omega)];simp⟩⟩
 ·rename_i G X;simp only[I9,beq_iff_eq,bne_iff_ne]at b;obtain⟨⟨⟨⟨⟨⟨az,p⟩,q⟩,t⟩,J⟩,L⟩,O⟩:=b;obtain⟨u,H⟩:=sE q;refine sF d p (amX t dL.h5 dL.zero) ?_;rw[u];have D:(w.alloc (.cells z.cells E)).heap[w.heap.size]?=some (.cells z.cells E (0,0)):=heap_alloc_new w _;have R:=Ud (P:=P) (us:=x.cells) D (by rw[ah.1,dL.Ub]) ah.2.1;refine Uc d J L (Ua O (by rw[fN _ _ _ _ (by omega)];simp) (by rw[fN _ _ _ _ (by omega)];simpa using A) dL.h5 (by rw[ah.1,dL.size]) R) (wpListIn_nil ?_);have y:w.grownBy ((w.alloc (.cells z.cells E)).setRow w.heap.size x.cells) none :=
   ⟨rfl,rfl,rfl,by simp,fun k hk _=>by rw[setRow_other _ _ _ _ (by omega),heap_alloc_old w _ (h:=hk)]⟩
  have ae:=fK.below.size;obtain⟨v,T,_⟩:=fK.box;have V:w0.heap.size<w.heap.size:=(Ja.1 T).1;refine B _ _ (KeepsFrom.of_grownBy y (fun j e=>by cases e)) (KeepsWalks.of_grownBy y (fun j o e=>by cases e)) (sC.own _ _ _ _ _ _ _ none fK y (fun r e=>by cases e))
   ⟨by simp[Act.put,aE],hd,by rw[fN _ _ _ _ (by omega)];simpa using U,.inr ⟨az,w.heap.size,by rw[fN _ _ _ _ (by omega)];simp,V,setRow_heap _ _ _ _ _ _ D⟩⟩
 ·cases b
variable {base e size k:Nat}{vs:List Value}
theorem am3(h:W.ownsRow 0 e size v k vs)(ae:∀b,v.ownBlock=some b->base<=b):W.ownsRow base e size v k vs:=by
 refine⟨h.1,?_⟩;rcases h.2 with d|⟨b,cap,c,rfl,_,r⟩
 ·exact .inl d
 ·exact .inr ⟨b,cap,c,rfl,ae b rfl,r⟩
theorem am4(h:W.ownsRow base e size v k vs):W.ownsRow 0 e size v k vs:=by
 refine⟨h.1,?_⟩;rcases h.2 with c|⟨b,cap,d,rfl,_,r⟩
 ·exact .inl c
 ·grind
theorem am5(G:∀f,F.fn f)(dL:DB P S E sz i z){b1:Nat}{T:Array Oper}(A:Mn N S E sz T.toList=true)(ah:vh sz x)(cq:A7 N sz E w0.heap.size x a w)(fK:sC E sz S w0 xs w)(hlen:xs.length<M)
  {V:Exit->Act->World->Prop}(w1:∀ch L,KeepsFrom (w0.heap.size+1) w L->KeepsWalks w L->sC E sz S w0 (xs++[x]) L->V .normal ch L):(Code.block b1 (.region id T false)).wpIn F n P V a w:=by
 obtain⟨aE,hd,U,H⟩:=cq;obtain⟨v,O,fk,nq⟩:=fK.box;obtain⟨j,lo,tE⟩:=dL.amZ;refine wpIn_block (wpIn_region_list ?_);generalize T.toList=l at A;unfold Mn at A;split at A
 case h_2=>cases A
 rename_i o0 eg e7 X Hf;simp only[I9,beq_iff_eq]at A;obtain⟨⟨⟨⟨⟨⟨⟨⟨⟨⟨⟨⟨⟨⟨pJ,d0⟩,m0⟩,aK⟩,d1⟩,R⟩,aQ⟩,d2⟩,m2⟩,bH⟩,d3⟩,J⟩,cO⟩,d4⟩,m4⟩:=A;obtain⟨e0,f0⟩:=sE d0;obtain⟨aN,f1⟩:=sE d1;obtain⟨aX,f2⟩:=sE d2;obtain⟨e1,f3⟩:=sE d3;have hb:w.cell? ⟨w0.heap.size,0,none⟩=some v:=by simp[World.cell?,O]
 have Y:w0.heap.size<w.heap.size:=(Ja.1 O).1;refine sF G pJ (T9 m0 U dL.dg ⟨by simp,by simp⟩ hb) ?_;rw[e0]
 -- the element
 have rp:(execOp (a.put (some 8) v).eval eg).run P w=.ok (.value x) w:=by
  rcases H with⟨az,H⟩|⟨az,yY,H,dO,fv⟩
  ·rw[if_pos az]at R;exact T7 (v:=x) R (by rw[fN _ _ _ _ (by omega)];simpa using H)
  ·rw[if_neg az]at R;obtain⟨dm,Z⟩:=dL.struct az;have:=amW (P:=P) (a:=a.put (some 8) v) (w:=w) (ws:=x.cells.toList) R (by rw[fN _ _ _ _ (by omega)];simpa using H) dL.h5 Z (by rw[Array.length_toList,ah.1,dL.size]) (fun k u hk=>by
    simp only[World.cell?,fv,Nat.zero_add];simpa using hk)
   rw[Array.toArray_toList,<-ah.2.2.2 az]at this;exact this
 refine sF G aK rp ?_;rw[aN];have aGS:((a.put (some 8) v).put (some 9) x).tmps.size=N:=by simp[Act.put,aE]
 refine sF G aQ (amY (v:=x) m2 (by rw[fN _ _ _ _ (by simp[Act.put,aE];omega)];simp) dL.dg dL.h5 dL.zero (by rw[dL.size];exact dL.pos) (by rw[ah.1,dL.size]) (by rw[dL.size];exact dL.le)) ?_;rw[aX];generalize qC:w.alloc (.cells x.cells E)=p;have r:w.grownBy p none:=by rw[<-qC];exact World.grownBy_alloc _ _ _
 have yU:p.heap[w.heap.size]?=some (.cells x.cells E (0,0)):=by rw[<-qC];exact heap_alloc_new w _
 have Mo:p.ownsRow (w0.heap.size+1) E sz v xs.length (flat xs):=fk.kept r (by
  cases h:v.ownBlock with
  |none=>exact .inl rfl|some b=>exact .inr (by simp))
 have kP:p.heap[w0.heap.size]?=some (.cells #[v] S (0,0)):=(r.block _ Y (by simp)).trans O
 -- the append
 obtain⟨d,B,cY,c4,fc,eU,gm⟩:=F8 (P:=P) (w:=p) (t:=S) (ty:=X.type) (ad:=⟨w.heap.size,0,none⟩) (m:=1) (c:=1) (news:=x.cells.toList) dL.dg dL.h5 dL.zero (by rw[dL.Ub,dL.size]) (by rw[dL.size];exact am4 Mo) (by rw[Array.length_toList,ah.1,dL.size,Nat.one_mul])
  (fun k u hk=>by rw[ni];simp only[World.cell?,yU,Nat.zero_add];simpa using hk) ah.2.1 (by omega) (by omega) dL.bytes
 rw[dL.size]at c4;have LX:(execOp (((a.put (some 8) v).put (some 9) x).put (some 10) (.slice (some ⟨w.heap.size,0,none⟩) 1 1)).eval X).run P p=.ok (.value d) B:=by
  unfold isApp at J;split at J
  ·rename_i b0 dt t ix ae;simp only[I9,beq_iff_eq]at J;obtain⟨⟨⟨fX,z2⟩,z3⟩,z4⟩:=J;rw[fX,z2,z3,z4]at ae;obtain⟨wD,cu⟩:=uH (o:=X) ae rfl (((a.put (some 8) v).put (some 9) x).put (some 10) (.slice (some ⟨w.heap.size,0,none⟩) 1 1)).eval;rw[cu];have al:(((a.put (some 8) v).put (some 9) x).put (some 10) (.slice (some ⟨w.heap.size,0,none⟩) 1 1)).eval (.tmp 8)=v:=sD (by
    rw[fN _ _ _ _ (by omega)];simp only[LW,if_false];rw[fN _ _ _ _ (by simp[Act.put,aE];omega)];simp only[LW,if_false];rw[fN _ _ _ _ (by omega)];simp)
   have au:(((a.put (some 8) v).put (some 9) x).put (some 10) (.slice (some ⟨w.heap.size,0,none⟩) 1 1)).eval (.tmp 10)=.slice (some ⟨w.heap.size,0,none⟩) 1 1:=sD (by rw[fN _ _ _ _ (by omega)];simp);simp only[builtin,List.map_cons,List.map_nil,al,au,Sem.run_bind,cY,Result.andThen_ok,Sem.run_pure]
  ·cases J
 refine sF G bH LX ?_;rw[e1];have AX:∀b,v.ownBlock=some b->w0.heap.size+1<=b/\b<p.heap.size:=Mo.lt;have Ue:∀b,d.ownBlock=some b->w0.heap.size+1<=b:=fun b ae=>by
  rcases eU with⟨q,_⟩|⟨q,_⟩
  ·rw[q]at ae;exact(AX b ae).1
  ·grind
 have Mp:∀k,k<p.heap.size->v.ownBlock≠some k->B.heap[k]?=p.heap[k]?:=fun k hk cc=>by
  rcases eU with⟨_,_,q⟩|⟨_,_,q⟩
  ·exact q k (fun e=>cc e.symm)
  ·exact q k hk
 have Uf:w0.heap.size<p.heap.size:=(Ja.1 kP).1;have am8:v.ownBlock≠some w0.heap.size:=fun e=>by have:=(AX _ e).1;omega
 have Mq:B.heap[w0.heap.size]?=some (.cells #[v] S (0,0)):=(Mp _ Uf am8).trans kP;have Mr:d.cells=#[d]/\d.oneCell'=true:=by
  rcases c4.2 with⟨rfl,_⟩|⟨b,cap,cur,rfl,_⟩<;>exact⟨rfl,rfl⟩
 have kJ:=Ud (P:=P) (us:=#[d]) Mq rfl (by simpa using Mr.2);refine Uc G cO d4 (Ua (v:=d) m4 ?_ ?_ lo (by rw[Mr.1,tE];rfl) (by rw[Mr.1];exact kJ)) (wpListIn_nil ?_)
 ·rw[fN _ _ _ _ (by simp[Act.put,aE];omega)];simp only[LW,if_false];rw[fN _ _ _ _ (by simp[Act.put,aE];omega)];simp only[LW,if_false];rw[fN _ _ _ _ (by simp[Act.put,aE];omega)];simp only[LW,if_false];rw[fN _ _ _ _ (by omega)];simpa using U
 ·rw[fN _ _ _ _ (by simp[Act.put,aE];omega)];simp
 have F0:∀(k:Nat)(bA:Obj),w.heap[k]?=some bA->bA.isCells=false->(B.setRow w0.heap.size #[d]).heap[k]?=some bA:=fun k bA hk C=>by
  have bw:=(Ja.1 hk).1;have Ug:p.heap[k]?=some bA:=(r.block k bw (by simp)).trans hk;have am9:k≠w0.heap.size:=fun e=>by subst e;rw[O]at hk;simp at hk;subst hk;cases C
  have Ms:v.ownBlock≠some k:=fun e=>by
   rcases Mo.2 with⟨rfl,_⟩|⟨b,cap,cur,rfl,_,q,_⟩
   ·simp[Value.ownBlock]at e
   ·simp[Value.ownBlock]at e;subst e;rw[Ug]at q;simp at q;subst q;cases C
  rw[setRow_other _ _ _ _ am9,Mp k (Nat.lt_of_lt_of_le bw r.size) Ms];exact Ug
 have fC:w.heap.size<=(B.setRow w0.heap.size #[d]).heap.size:=by have:=r.size;simp;omega
 have ana:(B.setRow w0.heap.size #[d]).ownsRow (w0.heap.size+1) E sz d (xs.length+1) (flat xs++x.cells.toList):=(am3 c4 Ue).kept (am1 _ _) (by
  cases h:d.ownBlock with
  |none=>exact .inl rfl|some b=>exact .inr (fun e=>by have:=Ue b h;simp at e;omega))
 show V .normal _ _;refine w1 _ _ ⟨fC,fun k bA _ hk C=>F0 k bA hk C⟩ ⟨fC,fun k bA hk C=>F0 k bA hk (Obj.not_cells_of_walk C)⟩ ⟨?_,⟨d,setRow_heap _ _ _ _ _ _ Mq,?_,by simp⟩,?_⟩
 ·refine⟨?_,?_,?_,?_,fun k hk=>?_⟩
  ·exact(congrArg Prod.fst gm.1).trans (r.os.trans fK.below.os)
  ·exact(congrArg Prod.snd gm.1).trans (r.tape.trans fK.below.tape)
  ·exact gm.2.trans (r.output.trans fK.below.output)
  ·exact Nat.le_trans fK.below.size fC
  ·rw[setRow_other _ _ _ _ (by omega),Mp k (by omega) (fun e=>by have:=(AX _ e).1;omega),r.block k (by omega) (by simp)];exact fK.below.block k hk
 ·rw[List.length_append,List.length_singleton,amT];exact ana
 ·intro y D;rcases List.mem_append.1 D with D|D
  ·exact fK.elems y D
  ·simp at D;subst D;exact ah
end
section
variable {P:Program}{gl:cp}{N:Nat}{g g':bo}{s s':an}{a:Act}{w w':World}{F:Fence}{n:Nat}{Q:Exit->Act->World->Prop}{ops:Array Oper}{rest:List Oper}{o:Oper}
variable {S E sz:Nat}{i:TypeInfo}{z:Value}{w0:World}{xs:List Value}{x:Value}{K:Act->World->Prop}
def Hg(N S E sz:Nat):Code->Bool
 |.seq (.region _ jM false) (.seq (.seq (.region _ bO false) (.block _ (.rangeFunc (.tmp t6) bP (.region _ bY false) (.block _ (.region _ c5 false))))) (.seq (.region _ dH false) .ret)) =>
  t6==6&&bP.toList==[7]&&decide (12<N)&&(match jM.toList with|[aO,x1]=>ig aO&&cB N aO 2&&Mh S 0 aO.op&&ig x1&&cB N x1 4&&Mi x1.op|_=>false) &&
   (match bO.toList with|[x2]=>ig x2&&cB N x2 6&&Hc 1 x2.op|_=>false)&&Mm N E sz bY.toList&&Mn N S E sz c5.toList &&
   (match dH.toList with|[jk,c1]=>ig jk&&cB N jk 12&&yX S 2 jk.op&&ig c1&&cB N c1 4&&Hd 12 c1.op|_=>false)
 |_=>false
variable {m id:Nat}{es:List (AV×AV)}
theorem mz.world{b:Nat}(h:mz P g w id b m es)(d:∀e∈es,eV e.2=true)(f:w'.heap[b]?=w.heap[b]?):mz P g w' id b m es:=by
 obtain⟨arr,j,k,⟨cX,c,l,p⟩,q,r,t,u⟩:=h;refine⟨arr,f.trans j,k,⟨cX,c,l,fun i e m he hm=>?_⟩,q,r,t,u⟩;obtain⟨v,y,A,B⟩:=p i e m he hm;exact⟨v,y,A,(L3 (d e (c.mem_iff.1 (List.mem_of_getElem? he)))).gb⟩
abbrev DC(sz:Nat):={ x:Value // vh sz x }
variable {h4:Nat}{fn:Func}{c:Code}{pre:List cz}{iQ:cz}{bj j9:Nat}
theorem anb(B:P.funcs[h4]?=some fn)(ae:fn.body=some c)(C:fn.results=#[])(D:A4 P fn.ntmps pre iQ c=true)
  (y:∀e∈es,eV e.2=true)(hk:∀e∈es,rB pre iQ e.1)(ao:∀e∈es,∀v,bb g0 e.1 v->vh sz v)(hm:mz P g w id bj m es)(G:bj<w.heap.size)(H:w.cell? ⟨j9,0,none⟩=some (.map (some bj)))(L:j9<w.heap.size) :
  SeqStopsK Fence.wide n P h4 #[ptrTo j9 0] (fun x:DC sz=>#[x.1]) KeepsWalks (fun xs=>∃ks,ks.Perm (es.map (·.1))/\cr g0 ks (xs.map (·.1))) (fun _=>True) es.length w:=by
 intro l J Jx W A O R T U;have V:=hm.world (w':=W) y (A.block bj G);have k:W.cell? ⟨j9,0,none⟩=some (.map (some bj)):=(A.cell L).trans H;refine(amH (J:=fun pre W=>∃b:List (DC sz),b.map (·.1)=pre/\J b W) (Jx:=fun pre W=>∃b:List (DC sz),b.map (·.1)=pre/\Jx b W) (p:=vh sz) (n:=n) (l:=l) (F:=Fence.wide) (fun _=>trivial) rfl (fun h=>by cases h) B ae C D y hk V k ?_ ?_ ao ?_ ⟨[],rfl,U⟩).mono ?_
 ·rintro pre d l7 q ⟨b,rfl,f⟩ t X;exact⟨b,rfl,O b d l7 q f t X⟩
 ·rintro pre d l7 ⟨b,rfl,f⟩ t;exact⟨b,rfl,R b d l7 none f t (fun r e=>by cases e)⟩
 ·rintro pre x d ⟨b,rfl,f⟩ ah j;obtain⟨Y,Mb,Z,eM,a1,dN⟩:=T b ⟨x,ah⟩ d f (by simpa using j);refine⟨Y,Mb,Z,eM,a1,dN.mono ?_⟩;rintro e dF (⟨rfl,u,au⟩|⟨rfl,u⟩)
  ·exact .inl ⟨rfl,⟨_,by simp,u⟩,au⟩
  ·exact .inr ⟨rfl,⟨_,by simp,u⟩⟩
 ·grind
set_option maxHeartbeats 1000000 in
theorem ane(dL:DB P S E sz i z){e3:Nat}{H:Func}{ia:Code}(yH:P.funcs[e3]?=some fn)(oW:fn.body=some c)(Mu:fn.results=#[.tmp 4])(p:Hg fn.ntmps S E sz c=true)
  (Mv:P.funcs[h4]?=some H)(wU:H.body=some ia)(Mw:H.results=#[])(Mx:A4 P H.ntmps pre iQ ia=true)(sw:j6 P h4=true)
  (ar:∀e∈es,eV e.2=true)(hk:∀e∈es,rB pre iQ e.1)(ao:∀e∈es,∀v,bb g0 e.1 v->vh sz v)(hm:mz P g w id bj m es)(rj:bj<w.heap.size)(DA:w.cell? ⟨j9,0,none⟩=some (.map (some bj)))(Mt:j9<w.heap.size)(bm:es.length<=M) :
  Calls P e3 #[.slice none 0 0,.func (.func h4) #[] #[ptrTo j9 0]] w fun e q=>∃v xs ks,e=.returned v/\ks.Perm (es.map (·.1))/\cr g0 ks xs/\(∀x∈xs,vh sz x)/\Below w.heap.size w q/\q.ownsRow (w.heap.size+1) E sz v xs.length (flat xs)/\(xs=[]->v=.slice none 0 0):=by
 refine(callsIn_wide (n:=5)).1 ?_;have b:∀f,Fence.wide.fn f:=fun _=>trivial;unfold Hg at p;split at p
 case h_2=>cases p
 rename_i i0 jM i1 bO jN t6 bP i2 bY aGT i3 c5 i4 dH;simp only[I9,beq_iff_eq,decide_eq_true_eq]at p;obtain⟨⟨⟨⟨⟨⟨⟨rfl,nZ⟩,l2⟩,t⟩,u⟩,c2⟩,fW⟩,A⟩:=p;refine callsIn_of_wp_marks yH oW (b _) ?_ rfl;generalize J:(#[Value.slice none 0 0,.func (.func h4) #[] #[ptrTo j9 0]]++Array.replicate (fn.ntmps-#[Value.slice none 0 0,.func (.func h4) #[] #[ptrTo j9 0]].size) undef)=T;have fC:T.size=fn.ntmps:=by rw[<-J];simp;omega
 have Mf:T[0]?=some (.slice none 0 0):=by rw[<-J];simp[Array.getElem?_append]
 have Dh:T[1]?=some (.func (.func h4) #[] #[ptrTo j9 0]):=by rw[<-J];simp[Array.getElem?_append]
 clear J;generalize B:({ tmps:=T,defers:=[] }:Act)=a0;have O:a0.tmps.size=fn.ntmps:=by rw[<-B];exact fC
 have xc:a0.defers=[]:=by rw[<-B]
 have yg:a0.tmps[0]?=some (.slice none 0 0):=by rw[<-B];exact Mf
 have R:a0.tmps[1]?=some (.func (.func h4) #[] #[ptrTo j9 0]):=by rw[<-B];exact Dh
 clear B Mf Dh;refine wpIn_seq (wpIn_region_list ?_);generalize jM.toList=jO at t;split at t
 case h_2=>cases t
 rename_i aO x1;simp only[I9]at t;obtain⟨⟨⟨⟨⟨pJ,d0⟩,m0⟩,aK⟩,d1⟩,m1⟩:=t;obtain⟨e0,f0⟩:=sE d0;obtain⟨aN,f1⟩:=sE d1;refine sF b pJ (amU m0 yg) ?_;rw[e0];refine sF b aK (amV m1) (wpListIn_nil ?_);rw[aN];generalize L:w.alloc (.cells (Value.slice none 0 0).cells S)=d;have DE:w.grownBy d none:=by rw[<-L];exact World.grownBy_alloc _ _ _
 have Uh:d.heap.size=w.heap.size+1:=by rw[<-L];exact nm _ _
 have yf:d.heap[w.heap.size]?=some (.cells #[.slice none 0 0] S (0,0)):=by rw[<-L];exact heap_alloc_new w _
 clear L;generalize C:(a0.put (some 2) (ptrTo w.heap.size 0)).put (some 4) (.slice none 0 0)=j;have ku:j.tmps.size=fn.ntmps:=by rw[<-C];simp[Act.put,O]
 have kL:j.defers=[]:=by rw[<-C];exact xc
 have uB:j.tmps[1]?=some (.func (.func h4) #[] #[ptrTo j9 0]):=by rw[<-C,fN _ _ _ _ (by simp[Act.put,O];omega)];simp only[LW,if_false];rw[fN _ _ _ _ (by omega)];simpa using R
 have yI:j.tmps[2]?=some (ptrTo w.heap.size 0):=by rw[<-C,fN _ _ _ _ (by simp[Act.put,O];omega)];simp only[LW,if_false];rw[fN _ _ _ _ (by omega)];simp
 clear C;show Code.wpIn _ _ _ _ _ j d;refine wpIn_seq (wpIn_seq (wpIn_region_list ?_));generalize bO.toList=cx at u;split at u
 case h_2=>cases u
 rename_i x2;simp only[I9]at u;obtain⟨⟨aQ,d2⟩,m2⟩:=u;obtain⟨aX,f2⟩:=sE d2;refine sF b aQ (T7 m2 uB) (wpListIn_nil ?_);rw[aX];generalize G:j.put (some 6) (.func (.func h4) #[] #[ptrTo j9 0])=a2;have tG:a2.tmps.size=fn.ntmps:=by rw[<-G];simp[Act.put,ku]
 have uK:a2.defers=[]:=by rw[<-G];exact kL
 have U:a2.tmps[2]?=some (ptrTo w.heap.size 0):=by rw[<-G,fN _ _ _ _ (by omega)];simpa using yI
 have V:a2.tmps[6]?=some (.func (.func h4) #[] #[ptrTo j9 0]):=by rw[<-G,fN _ _ _ _ (by omega)];simp
 clear G;show Code.wpIn _ _ _ _ _ a2 d;have Ml:bP=#[7]:=by apply Array.ext';simpa using nZ
 subst Ml;have yk:=anb (w:=w) (n:=4) Mv wU Mw Mx ar hk ao hm rj DA Mt;have Ui:Below w.heap.size w d:=(Below.refl _ w).grown DE (Nat.le_refl _) (fun k e=>by cases e);have X:sC E sz S w [] d:=⟨Ui,⟨_,yf,World.ownsRow_nil _ _ _ _,fun _=>rfl⟩,by simp⟩;refine wpIn_block (wpIn_rangeFunc_ownH (α:=DC sz) (w0:=w) rfl (by omega) (sD V) (b h4) (fun args w=>C0 sw) yk (fun h k=>h.trans k) (fun W l o dj _ h _ hw=>KeepsWalks.putObj _ h hw) Ui (fun _=>rfl)
  (fun(xs:List (DC sz))W=>sC E sz S w (xs.map Subtype.val) W) (fun _ _ _=>False) (fun s W q Y h aC aw=>sC.own E sz S w (s.map Subtype.val) W q Y h aC (fun r e=>by have:=aw r e;rw[Uh]at this;exact this)) (fun _ _ _ _ _ h _ _=>h) X
  (fun x Z W=>A7 fn.ntmps sz E w.heap.size x.1 Z W) (fun x Z=>A7.own _ _ _ _ _ _ _) ?_ ?_ ?_ (fun _ _ _ _ _ _ h _=>h.elim))
 ·intro l pre x W K fK dX;have DF:((#[7]:Array Nat).zip #[x.1])=#[(7,x.1)]:=by apply Array.ext';simp
  rw[DF];refine am2 (N:=fn.ntmps) (w0:=w) (xs:=pre.map Subtype.val) (x:=x.1) (fun _=>trivial) dL c2 x.2 ?_ ?_ ?_ ?_ fK ?_
  ·simp[tG]
  ·rfl
  ·grind
  ·grind
  ·grind
 ·intro l pre x Z W _ _ fK cq hlen;refine am5 (w0:=w) (xs:=pre.map Subtype.val) (x:=x.1) (fun _=>trivial) dL fW x.2 cq fK (by simp;omega) ?_;intro aGU q al au aS;exact⟨by rw[Uh];exact al,au,by simpa using aS⟩
 ·intro D xs W LF dg fK dX;show Code.wpIn _ _ _ _ _ _ W;obtain⟨v,u3,kP,Mq⟩:=fK.box;refine wpIn_seq (wpIn_region_list ?_);generalize dH.toList=kN at A;split at A
  case h_2=>cases A
  rename_i kO cU;simp only[I9]at A;obtain⟨⟨⟨⟨⟨bH,d3⟩,m3⟩,cO⟩,d4⟩,m4⟩:=A;obtain⟨e1,f3⟩:=sE d3;obtain⟨rn,f4⟩:=sE d4;have hb:W.cell? ⟨w.heap.size,0,none⟩=some v:=by simp[World.cell?,u3]
  refine sF b bH (T9 m3 U dL.dg ⟨by simp,by simp⟩ hb) ?_;rw[e1];refine sF b cO (T8 (v:=v) m4 (by rw[fN _ _ _ _ (by simp only;omega)];simp)) (wpListIn_nil ?_);rw[rn];refine wpIn_ret ?_;obtain⟨ks,anj,ank⟩:=dg;have Uj:W.grownBy (W.putObj D (.deferred none)) (some D):=Go.grownBy_putObj' W D _;have Uk:=sC.own E sz S w _ W _ _ fK Uj (fun r e=>by cases e;exact⟨by omega,_,dX,rfl⟩);obtain⟨v2,rq,qC,anl⟩:=Uk.box;have anm:v2=v:=by
   have bw:w.heap.size<W.heap.size:=(Ja.1 u3).1;have:=Uj.block w.heap.size bw (by simp;omega);rw[rq,u3]at this;simp at this;exact this
  subst anm;refine⟨by simp,.inl ⟨_,_,rfl,run_takeDeferred dX,?_⟩⟩;show LeavesInM _ _ _ _ _ _ a2.defers _ _;rw[uK];refine⟨_,results_tmp Mu _ _ _,v2,xs.map (·.1),ks,?_,anj,ank,fun y a1=>?_,Uk.below,qC,anl⟩
  ·simp[Act.put,Array.getD_eq_getD_getElem?,tG];omega
  ·grind
end
open Go
def cv:Option an->Option (List an)
 |some s=>some [s]|none=>none
inductive pK where
 |leaf (f:Nat) (gA:aG) (hT:List bF) (k:Nat)|node (m:Nat) (l r:pK)
theorem bn.ann{P:Program}{gl:cp}{f:Nat}{xs:List AV}{r:AV}{H:List ax}(Q:j6 P f=true)(aE:xs.all AV.arg=true)(hd:aF P gl f xs r):bn P gl f xs H fun r' H'=>r'=r/\H'=H:=by
 refine⟨Q,fun g w vs h R _=>(hd g.γ w vs h.ff h.gz (Ls R aE)).mono fun e w' S=>?_⟩;obtain⟨v,m,rfl,u,U,n,p,x,y,A⟩:=S;have B:∀b,v.ownBlock=some b->(∃e sz xs,r=.list (some e) sz xs)->b<w'.heap.size/\w.heap.size<=b:=by
  intro b ae ⟨e,sz,xs,k⟩;obtain⟨i,z,vs,C,D,E,F,G,J,K,s,t⟩:=A e sz xs k;have q:=(t b ae).1;refine⟨(s.lt b ae).2,?_⟩;simp only[u4]at q;by_cases a:b<w.heap.size
  ·simp[a]at q
  ·omega
 by_cases k:∃e sz xs,r=.list (some e) sz xs
 ·let d:bo:=⟨m,fun b=>if b<w.heap.size then g.bD b else if v.ownBlock=some b then .var 0 else .none,g.b4⟩
  have l:GhLe g d:=⟨u,fun _ _ h=>h⟩;have T:∀b,g.bD b≠.none->d.bD b=g.bD b/\w'.heap[b]?=w.heap[b]?/\∀o,d.γ b o=g.γ b o:=fun b ae=>by
   have a:=h.own b ae;exact⟨by simp[d,a],(n b a).1,(n b a).2⟩
  have c:Rel P gl 0 d (lz H) su w':=h.step .none (kH.none _) l (fun b ae=>T b ae.1) x (fun b ae=>by
   by_cases a:b<w.heap.size
   ·omega
   ·simp[d,a]at ae;exact(B b ae k).1) h.fE
  refine⟨v,r,H,d,rfl,⟨rfl,rfl⟩,⟨l,fun b ae=>?_,U,p.1,p.2⟩,c,y.mono (⟨fun _ _ _ h=>h,fun _ _ h=>by cases h⟩:GhLe (u4 m w.heap.size) d),?_⟩
  ·grind
  ·intro e sz xs ah;obtain⟨i,z,vs,C,D,E,F,G,J,K,s,t⟩:=A e sz xs ah;refine⟨i,z,vs,C,D,E,F,G,J,K,s,fun b ae=>?_⟩;have q:=B b ae k;exact⟨by simp[d,show ¬b<w.heap.size by omega,ae],(t b ae).2⟩
 ·let j:bo:=⟨m,fun b=>if b<w.heap.size then g.bD b else .none,g.b4⟩
  have L:GhLe g j:=⟨u,fun _ _ h=>h⟩;have O:∀b,g.bD b≠.none->j.bD b=g.bD b/\w'.heap[b]?=w.heap[b]?/\∀o,j.γ b o=g.γ b o:=fun b ae=>by
   have a:=h.own b ae;exact⟨by simp[j,a],(n b a).1,(n b a).2⟩
  have c:Rel P gl 0 j (lz H) su w':=h.step .none (kH.none _) L (fun b ae=>O b ae.1) x (fun b ae=>by
   by_cases a:b<w.heap.size
   ·omega
   ·simp[j,a]at ae) h.fE
  refine⟨v,r,H,j,rfl,⟨rfl,rfl⟩,⟨L,fun b ae=>?_,U,p.1,p.2⟩,c,y.mono (⟨fun _ _ _ h=>h,fun _ _ h=>by cases h⟩:GhLe (u4 m w.heap.size) j),.lU fun e sz xs ah=>k ⟨e,sz,xs,ah⟩⟩;obtain⟨V,W,X⟩:=O b (by rw[ae];simp);exact⟨V.trans ae,W,X⟩
structure aGV where
 f:Nat
 xs:List AV
 H:List ax
 outs:List L1
section
variable {P:Program}{gl:cp}{N:Nat}{g g':bo}{s s':an}{a:Act}{w w':World}{S E sz:Nat}{i:TypeInfo}{z:Value}
def A8:AV->Bool|.str _|.int _ _|.bool _=>true|_=>false
variable {v:Value}
theorem ano{c:AV}(b:A8 c=true)(h:bb g c v)(g':bo):bb g' c v:=by
 cases c<;>simp[A8]at b
 ·have:=h.nV;subst this;exact .pure _ _ (.bool _)
 ·have:=h.jF;subst this;exact .pure _ _ (.int _ _)
 ·obtain⟨rfl,d⟩:=h.lV;exact .pure _ _ (.str _ d)
theorem Ul:∀{cs:List AV}{ws:List Value},cs.all A8=true->cr g cs ws->cr g' cs ws
 |[],_,_,h=>by cases h;exact .nil|c::cs,_,b,.cons _ _ v ws h1 U=>by
  rw[List.all_cons,I9]at b;exact .cons _ _ _ _ (ano b.1 h1 g') (Ul b.2 U)
def pL(sz:Nat):AV->Bool
 |.str _=>sz==1|.agg cs=>sz==3&&cs.length==3&&cs.all A8|_=>false
variable {k:AV}
theorem anp{sz:Nat}(hk:pL sz k=true)(h:bb g k v):vh sz v:=by
 cases k<;>simp only[pL,Bool.false_eq_true,I9,beq_iff_eq]at hk
 ·subst hk;obtain⟨rfl,b⟩:=h.lV;exact⟨rfl,by simp[Value.cells,Value.oneCell'],fun _=>rfl,fun h=>absurd rfl h⟩
 ·obtain⟨⟨rfl,d⟩,e⟩:=hk;obtain⟨ws,rfl,c,U⟩:=h.nW;have b:=c.get.1;refine⟨by simp[Value.cells];omega,by simpa[Value.cells]using U,(fun h=>by omega),fun _=>by simp[Value.cells]⟩
theorem anq{sz:Nat}(hk:pL sz k=true)(h:bb g k v):cr g' k.cells v.cells.toList/\∀c∈k.cells,cP c:=by
 cases k<;>simp only[pL,Bool.false_eq_true,I9,beq_iff_eq]at hk
 ·obtain⟨rfl,d⟩:=h.lV;exact⟨.cons _ _ _ _ (.pure _ _ (.str _ d)) .nil,by simp[AV.cells];exact yc _⟩
 ·obtain⟨⟨rfl,j⟩,b⟩:=hk;obtain⟨ws,rfl,e,U⟩:=h.nW;refine⟨by simpa[Value.cells,AV.cells]using Ul b e,fun c f=>?_⟩;have:=List.all_eq_true.1 b c f;cases c<;>simp[A8]at this<;>exact fun _ _ _ h=>by simp at h
theorem Um{sz:Nat}:∀{ks:List AV}{vs:List Value},(∀k∈ks,pL sz k=true)->cr g ks vs->cr g' (ks.map AV.cells).flatten (flat vs)/\∀c∈(ks.map AV.cells).flatten,cP c
 |[],_,_,h=>by cases h;exact⟨.nil,by simp⟩|k::ks,_,hk,.cons _ _ v vs h1 U=>by
  obtain⟨d,e⟩:=anq (g':=g') (hk k (by simp)) h1;obtain⟨f,j⟩:=Um (fun k l=>hk k (by simp[l])) U;refine⟨by simpa[flat]using d.append f,fun c b=>?_⟩;simp only[List.map_cons,List.flatten_cons,List.mem_append]at b;exact b.elim (e c) (j c)
theorem anr(dL:DB P S E sz i z)(cn:jE P E sz=true){e3 y:Nat}{fn A:Func}{c T:Code}{o:List cz}{V:cz}(yH:P.funcs[e3]?=some fn)(oW:fn.body=some c)(Mu:fn.results=#[.tmp 4])(yZ:Hg fn.ntmps S E sz c=true)
  (Mv:P.funcs[y]?=some A)(wU:A.body=some T)(Mw:A.results=#[])(Mx:A4 P A.ntmps o V T=true)(sw:j6 P y=true)(C:j6 P e3=true)
  {H:List ax}{id mid m:Nat}{es:List (AV×AV)}(h1:H[id]?=some (.cells [.map mid]))(U:H[mid]?=some (.map m es))(p:∀e∈es,eV e.2=true)(hk:∀e∈es,rB o V e.1)(X:∀e∈es,pL sz e.1=true)(bm:es.length<=M) :
  bn P gl e3 [.aV sz,.fn y [.ptr id 0]] H fun r H'=>(es=[]/\r=.aV sz/\H'=H)\/(es≠[]/\∃ks:List AV,ks.Perm (es.map (·.1))/\r=.bs H.length 0 ks.length sz/\H'=H++[.buf E (ks.map AV.cells).flatten,.dead]):=by
 refine⟨C,fun g w vs h iM _=>?_⟩;obtain⟨b,aK,arr,ty,Y,bH,cO,fj,h9⟩:=h.heap id _ h1;obtain⟨u,al,au,aS,_⟩:=h9 0 _ rfl;obtain⟨bj,bI,rfl⟩:=aS.uI;obtain⟨n5,D,hm⟩:=h.heap mid _ U;rw[bI]at D;simp at D;subst D;have F:vs=[.slice none 0 0,.func (.func y) #[] #[ptrTo b 0]]:=by
  cases iM with
  |cons _ _ v1 us ai aY=>cases aY with
   |cons _ _ v2 TY bW dO =>
    cases dO;have:=ai.tk;subst this;cases bW with
    |pure _ _ h=>cases h|fn _ _ ws fv=>cases fv with
     |cons _ _ v3 amf lk ll =>
      cases ll;obtain⟨bU,n,rfl⟩:=lk.sh;rw[aK]at n;simp at n;subst n;rfl
 subst F;have ae:b<w.heap.size:=(Ja.1 Y).1;have rj:bj<w.heap.size:=by obtain⟨Z,n,_⟩:=hm;exact(Ja.1 n).1
 have hb:w.cell? ⟨b,0,none⟩=some (.map (some bj)):=by simp[World.cell?,Y,al]
 refine(ane dL yH oW Mu yZ Mv wU Mw Mx sw p hk (fun e he v p=>anp (X e he) p) hm rj hb ae bm).mono ?_;rintro e W ⟨v,xs,ks,rfl,G,c4,fc,d,gS,ht⟩;have J:(W.os,W.tape)=(w.os,w.tape)/\W.output=w.output:=⟨by rw[d.os,d.tape],d.output⟩;have f:xs.length=ks.length:=c4.get.1;have K:ks.length=es.length:=by simpa using G.length_eq
 by_cases L:es=[]
 ·subst L;have o1:xs=[]:=List.eq_nil_of_length_eq_zero (by rw[f,K];rfl);have O:=ht o1;subst O;have q:GhLe g g:=⟨fun _ _ _ h=>h,fun _ _ h=>h⟩;have t:Rel P gl 0 g (lz H) su W:=h.step .none (kH.none _) q (fun b ae=>⟨rfl,d.block b (h.own b ae.1),fun _=>rfl⟩) (fun b off v p=>by
   have Q:=h.ff b off v p;have bw:b<w.heap.size:=Ag Q;unfold World.cell? at Q ⊢;rw[d.block b bw];exact Q) (fun b ae=>Nat.lt_of_lt_of_le (h.own b ae) d.size) h.fE
  exact⟨_,.aV sz,H,g,rfl,.inl ⟨rfl,rfl,rfl⟩,⟨q,fun b ae=>⟨ae,d.block b (h.own b (by rw[ae];simp)),fun _=>rfl⟩,d.size,J.1,J.2⟩,t,.pure _ _ (.aV sz),.lU (by simp)⟩
 ·have qo:0<xs.length:=by have:=List.length_pos_iff.2 L;omega
  rcases gS.2 with⟨_,aP⟩|⟨nb,cap,cur,rfl,n,t2,t3,t4,t5,t6⟩
  ·omega
  have kI:∀k∈ks,pL sz k=true:=fun k jG=>by
   obtain⟨e,he,rfl⟩:=List.mem_map.1 (G.mem_iff.1 jG);exact X e he
  obtain⟨s1,s2⟩:=Um (g':=g) kI c4;have lX:∀u∈flat xs,u.oneCell'=true:=fun u hu=>by
   obtain⟨l,aD,R⟩:=List.mem_flatten.1 hu;obtain⟨x,ah,rfl⟩:=List.mem_map.1 aD;exact(fc x ah).2.1 u R
  obtain⟨g',b0,dt,eW,oe⟩:=h.Lh (w':=W) (nb:=nb) (e:=E) (sz:=sz) (us:=flat xs) (c:=cap) (cur:=cur) (.inl (by
   cases mF:g.bD nb with
   |none=>rfl|_=>have:=h.own nb (by rw[mF];simp);omega)) (fun off=>by
   cases fJ:g.γ nb off with
   |none=>rfl|some v=>have:=Ag (h.ff _ _ _ fJ);omega) (fun k _ hk=>d.block k hk) d.size J t2 t5 (fun j u B=>by
   rw[<-t6,List.getElem?_take]at B;split at B
   ·simpa using B
   ·cases B) s1 lX s2 cn t4
  refine⟨_,.bs H.length 0 ks.length sz,H++[.buf E (ks.map AV.cells).flatten,.dead],g',rfl,.inr ⟨L,ks,G,rfl,rfl⟩,b0,dt,?_,.lU (by simp)⟩;rw[f];exact .bs _ _ _ _ _ _ _ eW oe (by simp) (by omega)
def Un:List AV->List (List AV)
 |[]=>[[]]|x::xs=>(Un xs).flatMap fun p=>(List.range (p.length+1)).map fun i=>p.take i++[x]++p.drop i
def aGW(e3 h4 sz E:Nat)(base:L2):L2:=fun f xs H =>
 bif Nat.beq f e3 then(match xs with
  |[.aV dE,.fn ib [.ptr id 0]]=>(match H[id]? with
   |some (.cells [.map mid])=>(match H[mid]? with
    |some (.map _ es)=>if Nat.beq dE sz&&Nat.beq ib h4&&es.all (fun e=>eV e.2)&&es.all (fun e=>pL sz e.1)&&decide (es.length<=1000)then
      (match es with
       |[]=>some [(.aV sz,H)]|es=>some ((Un (es.map (·.1))).map fun ks=>(.bs H.length 0 ks.length sz,H++[.buf E (ks.map AV.cells).flatten,.dead])))else none
    |_=>none)
   |_=>none)
  |_=>none)
 else base f xs H
theorem Uo{sz:Nat}{z:List AV}(b:z.length=3)(hk:pL sz k=true):(sz=1/\rB [.ho 3 (.t 9)] (.ho 11 (.t 3)) k)\/(sz=3/\rB [.alloc 3 z,.st 3 (.t 3) (.t 9)] (.ld 11 (.t 3) 3 true) k):=by
 cases k<;>simp only[pL,Bool.false_eq_true,I9,beq_iff_eq]at hk
 ·exact .inl ⟨hk,al0 _⟩
 ·obtain⟨⟨d,e⟩,f⟩:=hk;exact .inr ⟨d,al1 z _ b e fun c h=>by have:=List.all_eq_true.1 f c h;cases c<;>simp[A8]at this ⊢⟩
def Mz(P:Program)(S E sz:Nat):Bool :=
 (match P.underlying S with|some (.slice e)=>e==E|_=>false)&&(match P.info? S with|some j=>j.size==1|none=>false) &&
 (match P.info? E with|some i=>i.size==sz&&decide (0<sz)&&decide (sz<=2 ^ 24)&&decide (i.bytes<=128)&&(match i.zero with|some z=>z.cells.size==sz|none=>false)|none=>false) &&
 (sz==1||(match P.underlying E with|some (.struct _)=>true|_=>false))
theorem anx(h:Mz P S E sz=true):∃i z,DB P S E sz i z:=by
 simp only[Mz,I9]at h;obtain⟨⟨⟨c,U⟩,d⟩,b⟩:=h;split at c
 case h_2=>cases c
 rename_i e dg;split at U
 case h_2=>cases U
 rename_i j l;split at d
 case h_2=>cases d
 rename_i i ak;simp only[I9,beq_iff_eq,decide_eq_true_eq]at c U d;subst c;obtain⟨⟨⟨⟨m,n⟩,o⟩,p⟩,f⟩:=d;split at f
 case h_2=>cases f
 rename_i z q;refine⟨i,z,dg,⟨j,l,U⟩,ak,m,n,o,q,by simpa using f,p,fun cc=>?_⟩;simp only[Bool.or_eq_true,beq_iff_eq]at b;rcases b with b|b
 ·exact absurd b cc
 ·grind
def Hj(P:Program)(e3 h4 S E sz:Nat)(pre:List cz)(iQ:cz):Bool :=
 Mz P S E sz&&jE P E sz&&j6 P h4&&j6 P e3 &&
 (match P.funcs[e3]? with
  |some fn=>(match fn.body with|some c=>Hg fn.ntmps S E sz c|none=>false)&&(match fn.results.toList with|[.tmp t]=>t==4|_=>false)|none=>false) &&
 (match P.funcs[h4]? with
  |some fn=>(match fn.body with|some c=>A4 P fn.ntmps pre iQ c|none=>false)&&fn.results.toList.isEmpty|none=>false)
theorem anz(k:AV)(h:pL 1 k=true):rB [.ho 3 (.t 9)] (.ho 11 (.t 3)) k:=by
 rcases Uo (z:=[.eP,.eP,.eP]) rfl h with⟨_,h⟩|⟨h,_⟩
 ·exact h
 ·cases h
theorem anA{z:List AV}(b:z.length=3)(k:AV)(h:pL 3 k=true):rB [.alloc 3 z,.st 3 (.t 3) (.t 9)] (.ld 11 (.t 3) 3 true) k:=by
 rcases Uo b h with⟨h,_⟩|⟨_,h⟩
 ·cases h
 ·exact h
end
end AM
