/- An abstract machine for the program of the seat, and what of the given program it does, part 12 of 17. Conditions: none. -/
import Derived.Test.YtjpfdkecffnlbaaGreatDoorAm10
import Derived.RangeFuncNested
import Derived.RangeFuncLeaves
set_option linter.unusedVariables false
set_option linter.unusedSimpArgs false
/-! slices.AppendSeq to nil, over a map's keys: a new slice of the keys in some order. Conditions: the map's values are bools. -/
namespace AM
open Go Go.RowKit
section
variable {P:Program} {gl:aR} {N:Nat} {g g':a5} {s s':ae} {a:Act} {w w':World} {F:Fence} {n:Nat} {Q:Exit→Act→World→Prop} {ops:Array Oper} {rest:List Oper} {o:Oper}
def pA (sz:Nat) (x:Value):Prop:=x.cells.size=sz∧(∀c∈x.cells.toList,c.oneCell'=true)∧(sz=1→x.cells=#[x])∧(sz≠1→x=.agg x.cells)
def flat (xs:List Value):List Value:=(xs.map (·.cells.toList)).flatten
theorem adH (xs:List Value) (x:Value):flat (xs++[x])=flat xs++x.cells.toList:=by simp [flat]
structure nw (e sz Ed:Nat) (w0:World) (xs:List Value) (W:World):Prop where
 below:Below w0.heap.size w0 W
 box:∃v,W.heap[w0.heap.size]?=some (.cells #[v] Ed (0,0))∧W.ownsRow (w0.heap.size+1) e sz v xs.length (flat xs)∧(xs=[]→v=.slice none 0 0)
 elems:∀x∈xs,pA sz x
theorem nw.own (e sz Ed:Nat) (w0:World):OwnFrom (w0.heap.size+1) (nw e sz Ed w0):=fun xs W cM row h aK lK=>by
 obtain ⟨v,R,aa,al⟩:=h.box
 have ah:some w0.heap.size≠row:=fun e=>by have:=(lK _ e.symm).1;omega
 have bz:w0.heap.size<W.heap.size:=(Array.getElem?_eq_some_iff.1 R).1
 refine ⟨h.below.grown aK h.below.size (fun k e=>by have:=(lK k e).1;omega),⟨v,(aK.block _ bz ah).trans R,aa.kept aK ?_,al⟩,h.elems⟩
 rcases aa.2 with ⟨rfl,_⟩ | ⟨k,cap,cur,rfl,_,ab,_⟩
 ·exact .inl rfl
 ·refine .inr fun e=>?_
  obtain ⟨_,o,aE,af⟩:=lK k e.symm
  rw [ab] at aE;simp at aE;subst aE;cases af
def Ee (T x:Nat):Op→Bool | .box t (.tmp y)=>t==T&&y==x | _=>false
def Ef:Op→Bool | .assign (.const (.slice none 0 0))=>true | _=>false
def zM (x:Nat):Op→Bool | .move (.tmp y)=>y==x | _=>false
def zN (x:Nat):Op→Bool | .assign (.tmp y)=>y==x | _=>false
def r8 (T x:Nat):Op→Bool | .load t (.tmp y)=>t==T&&y==x | _=>false
def zO (T x v:Nat):Op→Bool | .store t (.tmp y) (.tmp u)=>t==T&&y==x&&u==v | _=>false
def Eg (T:Nat):Op→Bool | .alloc t=>t==T | _=>false
def Eh (T x:Nat):Op→Bool | .buildSlice t n bT=>t==T&&n==1&&(match bT.toList with | [(k,.tmp y)]=>k==0&&y==x | _=>false) | _=>false
def isApp (T x y:Nat) (op:Op):Bool:=match m3 op with | some (.append,[.tmp u,.tmp v],[t,ht])=>t==T&&ht==T&&u==x&&v==y | _=>false
theorem nx {t:Nat} {v:Value} (h:a.tmps[t]?=some v):a.eval (.tmp t)=v:=by simp [Act.eval,Array.getD_eq_getD_getElem?,h]
section
variable {T x y u:Nat} {v:Value}
theorem adI (h:Ee T x o.op=true) (ai:a.tmps[x]?=some v):(execOp a.eval o).run P w=.ok (.value (ptrTo w.heap.size 0)) (w.alloc (.cells v.cells T)):=by
 unfold Ee at h
 split at h
 ·rename_i t fc aE
  simp only [Bool.and_eq_true,beq_iff_eq] at h
  obtain ⟨rfl,rfl⟩:=h
  simp only [execOp,aE,nx ai,Sem.run_bind,yr,Result.andThen_ok,Sem.run_pure]
 ·cases h
theorem adJ (h:Ef o.op=true):(execOp a.eval o).run P w=.ok (.value (.slice none 0 0)) w:=by
 unfold Ef at h
 split at h
 ·rename_i aE;simp [execOp,aE,Act.eval]
 ·cases h
theorem OG (h:zM x o.op=true) (ai:a.tmps[x]?=some v):(execOp a.eval o).run P w=.ok (.value v) w:=by
 unfold zM at h
 split at h
 ·rename_i fc aE
  simp only [beq_iff_eq] at h;subst h
  simp [execOp,aE,nx ai]
 ·cases h
theorem OH (h:zN x o.op=true) (ai:a.tmps[x]?=some v):(execOp a.eval o).run P w=.ok (.value v) w:=by
 unfold zN at h
 split at h
 ·rename_i fc aE
  simp only [beq_iff_eq] at h;subst h
  simp [execOp,aE,nx ai]
 ·cases h
theorem OI {kv:TypeDesc} {b:Nat} (h:r8 T x o.op=true) (ai:a.tmps[x]?=some (ptrTo b 0)) (hu:P.underlying T=some kv) (hY:(∀cu,kv≠.struct cu)∧∀n e,kv≠.array n e)
  (hw:w.cell? ⟨b,0,none⟩=some v):(execOp a.eval o).run P w=.ok (.value v) w:=by
 unfold r8 at h
 split at h
 ·rename_i t fc aE
  simp only [Bool.and_eq_true,beq_iff_eq] at h
  obtain ⟨rfl,rfl⟩:=h
  simp only [execOp,aE,nx ai,Sem.run_bind,yk hu hY hw,Result.andThen_ok,Sem.run_pure]
 ·cases h
theorem adK {i:TypeInfo} {cu:Array Field} {b:Nat} {ws:List Value} (h:r8 T x o.op=true) (ai:a.tmps[x]?=some (ptrTo b 0)) (av:P.info? T=some i) (hu:P.underlying T=some (.struct cu)) (aN:ws.length=i.size)
  (hw:∀j v,ws[j]?=some v→w.cell? ⟨b,0+j,none⟩=some v):(execOp a.eval o).run P w=.ok (.value (.agg ws.toArray)) w:=by
 unfold r8 at h
 split at h
 ·rename_i t fc aE
  simp only [Bool.and_eq_true,beq_iff_eq] at h
  obtain ⟨rfl,rfl⟩:=h
  simp only [execOp,aE,nx ai,Sem.run_bind,yj av hu aN hw (.inl ⟨cu,rfl⟩),Result.andThen_ok,Sem.run_pure]
 ·cases h
theorem OJ {i:TypeInfo} {b:Nat} (h:zO T x y o.op=true) (ai:a.tmps[x]?=some (ptrTo b 0)) (aT:a.tmps[y]?=some v) (av:P.info? T=some i) (a1:v.cells.size=i.size)
  (aA:(storeCells ⟨b,0,none⟩ v.cells.toList).run P w=.ok () w'):(execOp a.eval o).run P w=.ok .skip w':=by
 unfold zO at h
 split at h
 ·rename_i t fc bP aE
  simp only [Bool.and_eq_true,beq_iff_eq] at h
  obtain ⟨⟨rfl,rfl⟩,rfl⟩:=h
  simp only [execOp,aE,nx ai,nx aT,Sem.run_bind,B9 av a1 aA,Result.andThen_ok,Sem.run_pure]
 ·cases h
theorem adL {i:TypeInfo} (h:Eg T o.op=true) (av:P.info? T=some i) (bx:i.zero=some v):(execOp a.eval o).run P w=.ok (.value (ptrTo w.heap.size 0)) (w.alloc (.cells v.cells T)):=by
 unfold Eg at h
 split at h
 ·rename_i t aE
  simp only [beq_iff_eq] at h;subst h
  simp only [execOp,aE,Sem.run_bind,yq av bx,Result.andThen_ok,Sem.run_pure]
 ·cases h
theorem adM {e:Nat} {i:TypeInfo} {z:Value} (h:Eh T x o.op=true) (ai:a.tmps[x]?=some v) (hu:P.underlying T=some (.slice e)) (av:P.info? e=some i) (bx:i.zero=some z) (aS:0<i.size) (ax:v.cells.size=i.size) (a1:i.size≤2 ^ 24) :
  (execOp a.eval o).run P w=.ok (.value (.slice (some ⟨w.heap.size,0,none⟩) 1 1)) (w.alloc (.cells v.cells e)):=by
 unfold Eh at h
 split at h
 ·rename_i t n bT aE
  simp only [Bool.and_eq_true,beq_iff_eq] at h
  obtain ⟨⟨rfl,rfl⟩,h⟩:=h
  split at h
  ·rename_i k fc j4
   simp only [Bool.and_eq_true,beq_iff_eq] at h
   obtain ⟨rfl,rfl⟩:=h
   have Ei:bT=#[(0,.tmp fc)]:=by apply Array.ext';simpa using j4
   subst Ei
   have:=yy (P:=P) (w:=w) (vs:=[v]) hu av bx aS (by simpa using ax) (by simpa using a1)
   simp only [List.length_cons,List.length_nil,Nat.zero_add,List.zipIdx_cons,List.zipIdx_nil,List.map_cons,List.map_nil,List.flatten_cons,List.flatten_nil,List.append_nil,Array.toArray_toList] at this
   simp only [execOp,aE,Sem.run_bind]
   rw [show (#[((0:Nat),Operand.tmp fc)].map fun (x:Nat×Operand)=>(x.1,a.eval x.2))=[(0,v)].toArray by simp [nx ai]]
   rw [this];rfl
  ·cases h
 ·cases h
end
structure ug (P:Program) (S E sz:Nat) (i:TypeInfo) (z:Value):Prop where
 lk:P.underlying S=some (.slice E)
 adN:∃j,P.info? S=some j∧j.size=1
 wV:P.info? E=some i
 size:i.size=sz
 pos:0<sz
 le:sz≤2 ^ 24
 zero:i.zero=some z
 OK:z.cells.size=sz
 bytes:i.bytes≤128
 struct:sz≠1→∃cu,P.underlying E=some (.struct cu)
def adO (sz E B:Nat) (x:Value) (a:Act) (W:World):Prop :=
 (sz=1∧a.tmps[5]?=some x)∨(sz≠1∧∃r9,a.tmps[5]?=some (ptrTo r9 0)∧B<r9∧W.heap[r9]?=some (.cells x.cells E (0,0)))
def uh (N sz E B:Nat) (x:Value) (a:Act) (W:World):Prop:=a.tmps.size=N∧a.defers=[]∧a.tmps[2]?=some (ptrTo B 0)∧adO sz E B x a W
theorem uh.own (N sz E B C:Nat) (x:Value) (a:Act):OwnFrom C (fun (_:Unit) W=>uh N sz E B x a W):=fun _ W cM row h aK lK=>by
 obtain ⟨R,aa,al,aY⟩:=h
 refine ⟨R,aa,al,aY.imp id fun ⟨an,r9,ar,aO,bD⟩=>⟨an,r9,ar,aO,(aK.block r9 (Array.getElem?_eq_some_iff.1 bD).1 fun e=>?_).trans bD⟩⟩
 obtain ⟨_,o,aE,af⟩:=lK _ e.symm
 rw [bD] at aE;simp at aE;subst aE;cases af
def Ej (N E sz:Nat):List Oper→Bool
 | [pB]=>sz==1&&gd pB&&b2 N pB 5&&zN 7 pB.op
 | [pB,cr]=>sz != 1&&gd pB&&b2 N pB 5&&Eg E pB.op&&gd cr&&cr.dst==none&&zO E 5 7 cr.op
 | _=>false
def Ek (N S E sz:Nat):List Oper→Bool
 | [iO,e5,eQ,kN,ov]=>gd iO&&b2 N iO 8&&r8 S 2 iO.op&&gd e5&&b2 N e5 9&&(if sz=1 then zM 5 e5.op else r8 E 5 e5.op)&&gd eQ&&b2 N eQ 10&&Eh S 9 eQ.op &&
   gd kN&&b2 N kN 11&&isApp S 8 10 kN.op&&gd ov&&ov.dst==none&&zO S 2 11 ov.op
 | _=>false
theorem ny {N d:Nat} (h:b2 N o d=true):o.dst=some d∧d<N:=by simpa [b2] using h
theorem nz (ek:∀f,F.fn f) (ao:gd o=true) {v:Value} (aA:(execOp a.eval o).run P w=.ok (.value v) w') (K:wpListIn F n P ops Q rest (a.put o.dst v) w'):wpListIn F n P ops Q (o::rest) a w:=by
 unfold wpListIn
 rw [if_pos (pw ao)]
 refine ⟨fun f _=>ek f,?_⟩
 rw [Oper.semAt_eq _ _ _ (px ao),aA]
 exact K
theorem OL (ek:∀f,F.fn f) (ao:gd o=true) (aw:o.dst=none) (aA:(execOp a.eval o).run P w=.ok .skip w') (K:wpListIn F n P ops Q rest a w'):wpListIn F n P ops Q (o::rest) a w:=by
 unfold wpListIn
 rw [if_pos (pw ao)]
 refine ⟨fun f _=>ek f,?_⟩
 rw [Oper.semAt_eq _ _ _ (px ao),aA]
 show wpListIn F n P ops Q rest (a.put o.dst undef) w'
 rw [aw];exact K
theorem OM {b t:Nat} {cur:Array Value} {us:Array Value} (ah:w.heap[b]?=some (.cells cur t (0,0))) (aS:us.size=cur.size) (R:∀v∈us.toList,v.oneCell'=true) :
  (storeCells ⟨b,0,none⟩ us.toList).run P w=.ok () (w.setRow b us):=by
 have:=run_storeCells_at P b 0 t us.toList 0 cur w ah (by simpa using Nat.le_of_eq aS) R
 simp only [Nat.add_zero,List.take_zero,List.nil_append] at this
 rw [this]
 congr 2
 have aa:cur.toList.drop (0+us.toList.length)=[]:=by rw [List.drop_eq_nil_iff];simp;omega
 rw [aa];simp
theorem adP {W:World} (b:Nat) (arr:Array Value):W.grownBy (W.setRow b arr) (some b) :=
 ⟨rfl,rfl,rfl,by simp,fun k _ ab=>setRow_other W b k _ (fun e=>ab (by rw [e]))⟩
theorem en (a:Act) (d t:Nat) (v:Value) (aw:d<a.tmps.size):(a.put (some d) v).tmps[t]?=if t=d then some v else a.tmps[t]?:=m1 aw v t
variable {S E sz:Nat} {i:TypeInfo} {z:Value} {w0:World} {xs:List Value} {x:Value} {K:Act→World→Prop}
theorem adQ (ek:∀f,F.fn f) (cL:ug P S E sz i z) {id:Nat} {ik:Array Oper} (af:Ej N E sz ik.toList=true) (ai:pA sz x) (aZ:a.tmps.size=N) (aw:a.defers=[]) (dr:a.tmps[7]?=some x)
  (aa:a.tmps[2]?=some (ptrTo w0.heap.size 0)) (g7:nw E sz S w0 xs w)
  (cW:∀bO cM,KeepsFrom (w0.heap.size+1) w cM→KeepsWalks w cM→nw E sz S w0 xs cM→uh N sz E w0.heap.size x bO cM→K bO cM):(Code.region id ik false).wpIn F n P (Exit.then K (fun _ _ _=>False)) a w:=by
 refine wpIn_region_list ?_
 generalize ik.toList=l at af
 unfold Ej at af
 split at af
 ·rename_i pB
  simp only [Bool.and_eq_true,beq_iff_eq] at af
  obtain ⟨⟨⟨aS,nv⟩,d0⟩,iI⟩:=af
  obtain ⟨bB,aB⟩:=ny d0
  refine nz ek nv (OH iI dr) (wpListIn_nil ?_)
  rw [bB]
  refine cW _ _ (KeepsFrom.refl _ _) (KeepsWalks.refl _) g7 ⟨by simp [Act.put,aZ],aw,by rw [en _ _ _ _ (by omega)];simpa using aa,.inl ⟨aS,by rw [en _ _ _ _ (by omega)];simp⟩⟩
 ·rename_i pB cr
  simp only [Bool.and_eq_true,beq_iff_eq,bne_iff_ne] at af
  obtain ⟨⟨⟨⟨⟨⟨aS,nv⟩,d0⟩,iI⟩,aG⟩,d1⟩,bK⟩:=af
  obtain ⟨bB,aB⟩:=ny d0
  refine nz ek nv (adL iI cL.wV cL.zero) ?_
  rw [bB]
  have r5:(w.alloc (.cells z.cells E)).heap[w.heap.size]?=some (.cells z.cells E (0,0)):=heap_alloc_new w _
  have vr:=OM (P:=P) (us:=x.cells) r5 (by rw [ai.1,cL.OK]) ai.2.1
  refine OL ek aG d1 (OJ bK (by rw [en _ _ _ _ (by omega)];simp) (by rw [en _ _ _ _ (by omega)];simpa using dr) cL.wV (by rw [ai.1,cL.size]) vr) (wpListIn_nil ?_)
  have aK:w.grownBy ((w.alloc (.cells z.cells E)).setRow w.heap.size x.cells) none :=
   ⟨rfl,rfl,rfl,by simp,fun k ab _=>by rw [setRow_other _ _ _ _ (by omega),heap_alloc_old w _ (h:=ab)]⟩
  have ah:=g7.below.size
  obtain ⟨v,ax,_⟩:=g7.box
  have bz:w0.heap.size<w.heap.size:=(Array.getElem?_eq_some_iff.1 ax).1
  refine cW _ _ (KeepsFrom.of_grownBy aK (fun j e=>by cases e)) (KeepsWalks.of_grownBy aK (fun j o e=>by cases e)) (nw.own _ _ _ _ _ _ _ none g7 aK (fun r e=>by cases e))
   ⟨by simp [Act.put,aZ],aw,by rw [en _ _ _ _ (by omega)];simpa using aa,.inr ⟨aS,w.heap.size,by rw [en _ _ _ _ (by omega)];simp,bz,setRow_heap _ _ _ _ _ _ r5⟩⟩
 ·cases af
theorem adR {W:World} {base:Nat} {e size:Nat} {v:Value} {k:Nat} {vs:List Value} (h:W.ownsRow 0 e size v k vs) (ah:∀b,v.ownBlock=some b→base≤b):W.ownsRow base e size v k vs:=by
 refine ⟨h.1,?_⟩
 rcases h.2 with a0 | ⟨b,cap,cur,rfl,_,r⟩
 ·exact .inl a0
 ·exact .inr ⟨b,cap,cur,rfl,ah b rfl,r⟩
theorem adS {W:World} {base:Nat} {e size:Nat} {v:Value} {k:Nat} {vs:List Value} (h:W.ownsRow base e size v k vs):W.ownsRow 0 e size v k vs:=by
 refine ⟨h.1,?_⟩
 rcases h.2 with a0 | ⟨b,cap,cur,rfl,_,r⟩
 ·exact .inl a0
 ·exact .inr ⟨b,cap,cur,rfl,Nat.zero_le _,r⟩
theorem adT (ek:∀f,F.fn f) (cL:ug P S E sz i z) {id adU:Nat} {ka:Array Oper} (af:Ek N S E sz ka.toList=true) (ai:pA sz x) (dk:uh N sz E w0.heap.size x a w) (g7:nw E sz S w0 xs w) (hlen:xs.length<M)
  {tS:Exit→Act→World→Prop} (qs:∀bO cM,KeepsFrom (w0.heap.size+1) w cM→KeepsWalks w cM→nw E sz S w0 (xs++[x]) cM→tS .normal bO cM):(Code.block adU (.region id ka false)).wpIn F n P tS a w:=by
 obtain ⟨aZ,aw,aa,bn⟩:=dk
 obtain ⟨v,ax,dx,n9⟩:=g7.box
 obtain ⟨j,lG,tI⟩:=cL.adN
 refine wpIn_block (wpIn_region_list ?_)
 generalize ka.toList=l at af
 unfold Ek at af
 split at af
 case h_2=>cases af
 rename_i iO e5 eQ kN ov
 simp only [Bool.and_eq_true,beq_iff_eq] at af
 obtain ⟨⟨⟨⟨⟨⟨⟨⟨⟨⟨⟨⟨⟨⟨nv,d0⟩,iI⟩,aG⟩,d1⟩,bK⟩,aJ⟩,d2⟩,cg⟩,bo⟩,d3⟩,cS⟩,cd⟩,d4⟩,eC⟩:=af
 obtain ⟨bB,f0⟩:=ny d0
 obtain ⟨aB,f1⟩:=ny d1
 obtain ⟨aI,f2⟩:=ny d2
 obtain ⟨dS,f3⟩:=ny d3
 have g3:w.cell? ⟨w0.heap.size,0,none⟩=some v:=by simp [World.cell?,ax]
 have adV:w0.heap.size<w.heap.size:=(Array.getElem?_eq_some_iff.1 ax).1
 refine nz ek nv (OI iI aa cL.lk ⟨by simp,by simp⟩ g3) ?_
 rw [bB]
 -- the element
 have mu:(execOp (a.put (some 8) v).eval e5).run P w=.ok (.value x) w:=by
  rcases bn with ⟨aS,bn⟩ | ⟨aS,r9,bn,cw,dr⟩
  ·rw [if_pos aS] at bK
   exact OG (v:=x) bK (by rw [en _ _ _ _ (by omega)];simpa using bn)
  ·rw [if_neg aS] at bK
   obtain ⟨cu,El⟩:=cL.struct aS
   have:=adK (P:=P) (a:=a.put (some 8) v) (w:=w) (ws:=x.cells.toList) bK (by rw [en _ _ _ _ (by omega)];simpa using bn) cL.wV El (by rw [Array.length_toList,ai.1,cL.size]) (fun k u ab=>by
    simp only [World.cell?,dr,Nat.zero_add];simpa using ab)
   rw [Array.toArray_toList,←ai.2.2.2 aS] at this
   exact this
 refine nz ek aG mu ?_
 rw [aB]
 have aqY:((a.put (some 8) v).put (some 9) x).tmps.size=N:=by simp [Act.put,aZ]
 refine nz ek aJ (adM (v:=x) cg (by rw [en _ _ _ _ (by simp [Act.put,aZ];omega)];simp) cL.lk cL.wV cL.zero (by rw [cL.size];exact cL.pos) (by rw [ai.1,cL.size]) (by rw [cL.size];exact cL.le)) ?_
 rw [aI]
 generalize sa:w.alloc (.cells x.cells E)=c2
 have lX:w.grownBy c2 none:=by rw [←sa];exact World.grownBy_alloc _ _ _
 have r5:c2.heap[w.heap.size]?=some (.cells x.cells E (0,0)):=by rw [←sa];exact heap_alloc_new w _
 have Em:c2.ownsRow (w0.heap.size+1) E sz v xs.length (flat xs):=dx.kept lX (by
  cases h:v.ownBlock with
  | none=>exact .inl rfl
  | some b=>exact .inr (by simp))
 have rM:c2.heap[w0.heap.size]?=some (.cells #[v] S (0,0)):=(lX.block _ adV (by simp)).trans ax
 -- the append
 obtain ⟨bP,eY,bN,cb,ds,dz,c3⟩:=yB (P:=P) (w:=c2) (t:=S) (ty:=kN.type) (ad:=⟨w.heap.size,0,none⟩) (m:=1) (c:=1) (news:=x.cells.toList) cL.lk cL.wV cL.zero (by rw [cL.OK,cL.size]) (by rw [cL.size];exact adS Em) (by rw [Array.length_toList,ai.1,cL.size,Nat.one_mul])
  (fun k u ab=>by rw [iX];simp only [World.cell?,r5,Nat.zero_add];simpa using ab) ai.2.1 (by omega) (by omega) cL.bytes
 rw [cL.size] at cb
 have DT:(execOp (((a.put (some 8) v).put (some 9) x).put (some 10) (.slice (some ⟨w.heap.size,0,none⟩) 1 1)).eval kN).run P c2=.ok (.value bP) eY:=by
  unfold isApp at cS
  split at cS
  ·rename_i cr cX t ht ah
   simp only [Bool.and_eq_true,beq_iff_eq] at cS
   obtain ⟨⟨⟨h2,rE⟩,rF⟩,vZ⟩:=cS
   rw [h2,rE,rF,vZ] at ah
   obtain ⟨nZ,bM⟩:=m4 (o:=kN) ah rfl (((a.put (some 8) v).put (some 9) x).put (some 10) (.slice (some ⟨w.heap.size,0,none⟩) 1 1)).eval
   rw [bM]
   have an:(((a.put (some 8) v).put (some 9) x).put (some 10) (.slice (some ⟨w.heap.size,0,none⟩) 1 1)).eval (.tmp 8)=v:=nx (by
    rw [en _ _ _ _ (by omega)];simp only [Nat.reduceEqDiff,if_false];rw [en _ _ _ _ (by simp [Act.put,aZ];omega)];simp only [Nat.reduceEqDiff,if_false];rw [en _ _ _ _ (by omega)];simp)
   have ar:(((a.put (some 8) v).put (some 9) x).put (some 10) (.slice (some ⟨w.heap.size,0,none⟩) 1 1)).eval (.tmp 10)=.slice (some ⟨w.heap.size,0,none⟩) 1 1:=nx (by rw [en _ _ _ _ (by omega)];simp)
   simp only [builtin,List.map_cons,List.map_nil,an,ar,Sem.run_bind,bN,Result.andThen_ok,Sem.run_pure]
  ·cases cS
 refine nz ek bo DT ?_
 rw [dS]
 have tN:∀b,v.ownBlock=some b→w0.heap.size+1≤b∧b<c2.heap.size:=Em.lt
 have ON:∀b,bP.ownBlock=some b→w0.heap.size+1≤b:=fun b ah=>by
  rcases dz with ⟨q,_⟩ | ⟨q,_⟩
  ·rw [q] at ah;exact (tN b ah).1
  ·rw [q] at ah;simp at ah;have:=lX.size;omega
 have En:∀k,k<c2.heap.size→v.ownBlock≠some k→eY.heap[k]?=c2.heap[k]?:=fun k ab ck=>by
  rcases dz with ⟨_,_,q⟩ | ⟨_,_,q⟩
  ·exact q k (fun e=>ck e.symm)
  ·exact q k ab
 have OO:w0.heap.size<c2.heap.size:=(Array.getElem?_eq_some_iff.1 rM).1
 have adW:v.ownBlock≠some w0.heap.size:=fun e=>by have:=(tN _ e).1;omega
 have Eo:eY.heap[w0.heap.size]?=some (.cells #[v] S (0,0)):=(En _ OO adW).trans rM
 have Ep:bP.cells=#[bP]∧bP.oneCell'=true:=by
  rcases cb.2 with ⟨rfl,_⟩ | ⟨b,cap,cur,rfl,_⟩<;>exact ⟨rfl,rfl⟩
 have vr:=OM (P:=P) (us:=#[bP]) Eo rfl (by simpa using Ep.2)
 refine OL ek cd d4 (OJ (v:=bP) eC ?_ ?_ lG (by rw [Ep.1,tI];rfl) (by rw [Ep.1];exact vr)) (wpListIn_nil ?_)
 ·rw [en _ _ _ _ (by simp [Act.put,aZ];omega)];simp only [Nat.reduceEqDiff,if_false];rw [en _ _ _ _ (by simp [Act.put,aZ];omega)];simp only [Nat.reduceEqDiff,if_false]
  rw [en _ _ _ _ (by simp [Act.put,aZ];omega)];simp only [Nat.reduceEqDiff,if_false];rw [en _ _ _ _ (by omega)];simpa using aa
 ·rw [en _ _ _ _ (by simp [Act.put,aZ];omega)];simp
 have yt:∀(k:Nat) (bt:Obj),w.heap[k]?=some bt→bt.isCells=false→(eY.setRow w0.heap.size #[bP]).heap[k]?=some bt:=fun k bt ab bh=>by
  have bz:=(Array.getElem?_eq_some_iff.1 ab).1
  have OP:c2.heap[k]?=some bt:=(lX.block k bz (by simp)).trans ab
  have adX:k≠w0.heap.size:=fun e=>by subst e;rw [ax] at ab;simp at ab;subst ab;cases bh
  have adY:v.ownBlock≠some k:=fun e=>by
   rcases Em.2 with ⟨rfl,_⟩ | ⟨b,cap,cur,rfl,_,q,_⟩
   ·simp [Value.ownBlock] at e
   ·simp [Value.ownBlock] at e;subst e;rw [OP] at q;simp at q;subst q;cases bh
  rw [setRow_other _ _ _ _ adX,En k (Nat.lt_of_lt_of_le bz lX.size) adY];exact OP
 have ea:w.heap.size≤(eY.setRow w0.heap.size #[bP]).heap.size:=by have:=lX.size;simp;omega
 have adZ:(eY.setRow w0.heap.size #[bP]).ownsRow (w0.heap.size+1) E sz bP (xs.length+1) (flat xs++x.cells.toList):=(adR cb ON).kept (adP _ _) (by
  cases h:bP.ownBlock with
  | none=>exact .inl rfl
  | some b=>exact .inr (fun e=>by have:=ON b h;simp at e;omega))
 show tS .normal _ _
 refine qs _ _ ⟨ea,fun k bt _ ab bh=>yt k bt ab bh⟩ ⟨ea,fun k bt ab bh=>yt k bt ab (Obj.not_cells_of_walk bh)⟩ ⟨?_,⟨bP,setRow_heap _ _ _ _ _ _ Eo,?_,by simp⟩,?_⟩
 ·refine ⟨?_,?_,?_,?_,fun k ab=>?_⟩
  ·exact (congrArg Prod.fst c3.1).trans (lX.os.trans g7.below.os)
  ·exact (congrArg Prod.snd c3.1).trans (lX.tape.trans g7.below.tape)
  ·exact c3.2.trans (lX.output.trans g7.below.output)
  ·exact Nat.le_trans g7.below.size ea
  ·rw [setRow_other _ _ _ _ (by omega),En k (by omega) (fun e=>by have:=(tN _ e).1;omega),lX.block k (by omega) (by simp)]
   exact g7.below.block k ab
 ·rw [List.length_append,List.length_singleton,adH];exact adZ
 ·intro y aT
  rcases List.mem_append.1 aT with aT | aT
  ·exact g7.elems y aT
  ·simp at aT;subst aT;exact ai
end
end AM
/-! slices.AppendSeq to nil, over a map's keys, as a contract of the abstract machine. Conditions: the map's values are bools. -/
namespace AM
open Go Go.RowKit
section
variable {P:Program} {gl:aR} {N:Nat} {g g':a5} {s s':ae} {a:Act} {w w':World} {F:Fence} {n:Nat} {Q:Exit→Act→World→Prop} {ops:Array Oper} {rest:List Oper} {o:Oper}
variable {S E sz:Nat} {i:TypeInfo} {z:Value} {w0:World} {xs:List Value} {x:Value} {K:Act→World→Prop}
def wW (N S E sz:Nat):Code→Bool
 | .seq (.region _ hS false) (.seq (.seq (.region _ bf false) (.block _ (.rangeFunc (.tmp t6) bT (.region _ bu false) (.block _ (.region _ b5 false))))) (.seq (.region _ cy false) .ret)) =>
  t6==6&&bT.toList==[7]&&decide (12<N)&&(match hS.toList with | [fq,x1]=>gd fq&&b2 N fq 2&&Ee S 0 fq.op&&gd x1&&b2 N x1 4&&Ef x1.op | _=>false) &&
   (match bf.toList with | [x2]=>gd x2&&b2 N x2 6&&zM 1 x2.op | _=>false)&&Ej N E sz bu.toList&&Ek N S E sz b5.toList &&
   (match cy.toList with | [gT,cf]=>gd gT&&b2 N gT 12&&r8 S 2 gT.op&&gd cf&&b2 N cf 4&&zN 12 cf.op | _=>false)
 | _=>false
theorem iV.world {b m id:Nat} {es:List (AV×AV)} (h:iV P g w id b m es) (ax:∀e∈es,dA e.2=true) (hw:w'.heap[b]?=w.heap[b]?):iV P g w' id b m es:=by
 obtain ⟨arr,aG,aJ,⟨b9,an,ar,aO⟩,cd,dV,fY,jY⟩:=h
 refine ⟨arr,hw.trans aG,aJ,⟨b9,an,ar,fun i e m he hm=>?_⟩,cd,dV,fY,jY⟩
 obtain ⟨bf,bu,b5,cy⟩:=aO i e m he hm
 exact ⟨bf,bu,b5,(D0 (ax e (an.mem_iff.1 (List.mem_of_getElem? he)))).fo⟩
abbrev wX (sz:Nat):={ x:Value // pA sz x }
theorem ad0 {fk:Nat} {fn:Func} {c:Code} {pre:List bR} {fU:bR} (aP:P.funcs[fk]?=some fn) (ah:fn.body=some c) (pj:fn.results=#[]) (nm:r4 P fn.ntmps pre fU c=true)
  {id b1 m hH:Nat} {es:List (AV×AV)} (ax:∀e∈es,dA e.2=true) (ab:∀e∈es,lU pre fU e.1) (ao:∀e∈es,∀v,aU np e.1 v→pA sz v) (hm:iV P g w id b1 m es) (mq:b1<w.heap.size) (wU:w.cell? ⟨hH,0,none⟩=some (.map (some b1))) (Er:hH<w.heap.size) :
  SeqStopsK Fence.wide n P fk #[ptrTo hH 0] (fun x:wX sz=>#[x.1]) KeepsWalks (fun xs=>∃az,az.Perm (es.map (·.1))∧bW np az (xs.map (·.1))) (fun _=>True) es.length w:=by
 intro l J Jx W hC nu wO wN a0
 have k7:=hm.world (w':=W) ax (hC.block b1 mq)
 have ad1:W.cell? ⟨hH,0,none⟩=some (.map (some b1)):=(hC.cell Er).trans wU
 refine (adu (J:=fun pre W=>∃ys:List (wX sz),ys.map (·.1)=pre∧J ys W) (Jx:=fun pre W=>∃ys:List (wX sz),ys.map (·.1)=pre∧Jx ys W) (p:=pA sz) (n:=n) (l:=l) (F:=Fence.wide) (fun _=>trivial) rfl (fun h=>by cases h) aP ah pj nm ax ab k7 ad1 ?_ ?_ ao ?_ ⟨[],rfl,a0⟩).mono ?_
 ·rintro pre lV Es row ⟨ys,rfl,a6⟩ aK aA
  exact ⟨ys,rfl,nu ys lV Es row a6 aK aA⟩
 ·rintro pre lV Es ⟨ys,rfl,a6⟩ aK
  exact ⟨ys,rfl,wO ys lV Es none a6 aK (fun r e=>by cases e)⟩
 ·rintro pre x lV ⟨ys,rfl,a6⟩ ai hlen
  obtain ⟨jk,D8,as,eG,aT,je⟩:=wN ys ⟨x,ai⟩ lV a6 (by simpa using hlen)
  refine ⟨jk,D8,as,eG,aT,je.mono ?_⟩
  rintro e cM (⟨rfl,an,ar⟩ | ⟨rfl,an⟩)
  ·exact .inl ⟨rfl,⟨_,by simp,an⟩,ar⟩
  ·exact .inr ⟨rfl,⟨_,by simp,an⟩⟩
 ·rintro e cM ⟨cF,⟨xs,⟨az,R,aa⟩,ys,rfl,a6⟩ | ⟨pre,_,ys,rfl,a6⟩⟩
  ·exact ⟨cF,.inl ⟨ys,⟨az,R,aa⟩,a6⟩⟩
  ·exact ⟨cF,.inr ⟨ys,trivial,a6⟩⟩
set_option maxHeartbeats 1000000 in
theorem ad2 (cL:ug P S E sz i z) {aC fk:Nat} {fn jk:Func} {c fg:Code} {pre:List bR} {fU:bR} (pq:P.funcs[aC]?=some fn) (jL:fn.body=some c) (wY:fn.results=#[.tmp 4]) (pC:wW fn.ntmps S E sz c=true)
  (wZ:P.funcs[fk]?=some jk) (n7:jk.body=some fg) (w1:jk.results=#[]) (w2:r4 P jk.ntmps pre fU fg=true) (lQ:hQ P fk=true)
  {id b1 m hH:Nat} {es:List (AV×AV)} (ax:∀e∈es,dA e.2=true) (ab:∀e∈es,lU pre fU e.1) (ao:∀e∈es,∀v,aU np e.1 v→pA sz v) (hm:iV P g w id b1 m es) (mq:b1<w.heap.size) (wU:w.cell? ⟨hH,0,none⟩=some (.map (some b1))) (Er:hH<w.heap.size) (c7:es.length≤M) :
  Calls P aC #[.slice none 0 0,.func (.func fk) #[] #[ptrTo hH 0]] w fun e cM=>∃v xs az,e=.returned v∧az.Perm (es.map (·.1))∧bW np az xs∧(∀x∈xs,pA sz x)∧Below w.heap.size w cM∧cM.ownsRow (w.heap.size+1) E sz v xs.length (flat xs)∧(xs=[]→v=.slice none 0 0):=by
 refine (callsIn_wide (n:=5)).1 ?_
 have ek:∀f,Fence.wide.fn f:=fun _=>trivial
 unfold wW at pC
 split at pC
 case h_2=>cases pC
 rename_i i0 hS i1 bf nA t6 bT i2 bu aqZ i3 b5 i4 cy
 simp only [Bool.and_eq_true,beq_iff_eq,decide_eq_true_eq] at pC
 obtain ⟨⟨⟨⟨⟨⟨⟨rfl,j4⟩,v9⟩,gT⟩,cf⟩,cY⟩,eS⟩,fJ⟩:=pC
 refine callsIn_of_wp_marks pq jL (ek _) ?_ rfl
 generalize zP:(#[Value.slice none 0 0,.func (.func fk) #[] #[ptrTo hH 0]]++Array.replicate (fn.ntmps - #[Value.slice none 0 0,.func (.func fk) #[] #[ptrTo hH 0]].size) undef)=T
 have ea:T.size=fn.ntmps:=by rw [←zP];simp;omega
 have zL:T[0]?=some (.slice none 0 0):=by rw [←zP];simp [Array.getElem?_append]
 have tM:T[1]?=some (.func (.func fk) #[] #[ptrTo hH 0]):=by rw [←zP];simp [Array.getElem?_append]
 clear zP
 generalize w3:({ tmps:=T,defers:=[] }:Act)=py
 have jh:py.tmps.size=fn.ntmps:=by rw [←w3];exact ea
 have ad3:py.defers=[]:=by rw [←w3]
 have rm:py.tmps[0]?=some (.slice none 0 0):=by rw [←w3];exact zL
 have ad4:py.tmps[1]?=some (.func (.func fk) #[] #[ptrTo hH 0]):=by rw [←w3];exact tM
 clear w3 zL tM
 refine wpIn_seq (wpIn_region_list ?_)
 generalize hS.toList=ix at gT
 split at gT
 case h_2=>cases gT
 rename_i fq x1
 simp only [Bool.and_eq_true] at gT
 obtain ⟨⟨⟨⟨⟨nv,d0⟩,iI⟩,aG⟩,d1⟩,bK⟩:=gT
 obtain ⟨bB,f0⟩:=ny d0
 obtain ⟨aB,f1⟩:=ny d1
 refine nz ek nv (adI iI rm) ?_
 rw [bB]
 refine nz ek aG (adJ bK) (wpListIn_nil ?_)
 rw [aB]
 generalize zQ:w.alloc (.cells (Value.slice none 0 0).cells S)=sc
 have ad5:w.grownBy sc none:=by rw [←zQ];exact World.grownBy_alloc _ _ _
 have Et:sc.heap.size=w.heap.size+1:=by rw [←zQ];exact jE _ _
 have o3:sc.heap[w.heap.size]?=some (.cells #[.slice none 0 0] S (0,0)):=by rw [←zQ];exact heap_alloc_new w _
 clear zQ
 generalize pz:(py.put (some 2) (ptrTo w.heap.size 0)).put (some 4) (.slice none 0 0)=de
 have fK:de.tmps.size=fn.ntmps:=by rw [←pz];simp [Act.put,jh]
 have oZ:de.defers=[]:=by rw [←pz];exact ad3
 have oU:de.tmps[1]?=some (.func (.func fk) #[] #[ptrTo hH 0]):=by rw [←pz,en _ _ _ _ (by simp [Act.put,jh];omega)];simp only [Nat.reduceEqDiff,if_false];rw [en _ _ _ _ (by omega)];simpa using ad4
 have rT:de.tmps[2]?=some (ptrTo w.heap.size 0):=by rw [←pz,en _ _ _ _ (by simp [Act.put,jh];omega)];simp only [Nat.reduceEqDiff,if_false];rw [en _ _ _ _ (by omega)];simp
 clear pz
 show Code.wpIn _ _ _ _ _ de sc
 refine wpIn_seq (wpIn_seq (wpIn_region_list ?_))
 generalize bf.toList=cT at cf
 split at cf
 case h_2=>cases cf
 rename_i x2
 simp only [Bool.and_eq_true] at cf
 obtain ⟨⟨aJ,d2⟩,cg⟩:=cf
 obtain ⟨aI,f2⟩:=ny d2
 refine nz ek aJ (OG cg oU) (wpListIn_nil ?_)
 rw [aI]
 generalize h7:de.put (some 6) (.func (.func fk) #[] #[ptrTo hH 0])=dR
 have qH:dR.tmps.size=fn.ntmps:=by rw [←h7];simp [Act.put,fK]
 have o0:dR.defers=[]:=by rw [←h7];exact oZ
 have OQ:dR.tmps[2]?=some (ptrTo w.heap.size 0):=by rw [←h7,en _ _ _ _ (by omega)];simpa using rT
 have ad6:dR.tmps[6]?=some (.func (.func fk) #[] #[ptrTo hH 0]):=by rw [←h7,en _ _ _ _ (by omega)];simp
 clear h7
 show Code.wpIn _ _ _ _ _ dR sc
 have Ei:bT=#[7]:=by apply Array.ext';simpa using j4
 subst Ei
 have rr:=ad0 (w:=w) (n:=4) wZ n7 w1 w2 ax ab ao hm mq wU Er
 have OR:Below w.heap.size w sc:=(Below.refl _ w).grown ad5 (Nat.le_refl _) (fun k e=>by cases e)
 have ad7:nw E sz S w [] sc:=⟨OR,⟨_,o3,World.ownsRow_nil _ _ _ _,fun _=>rfl⟩,by simp⟩
 refine wpIn_block (wpIn_rangeFunc_ownH (α:=wX sz) (w0:=w) rfl (by omega) (nx ad6) (ek fk) (fun args w=>v7 lQ) rr (fun h k=>h.trans k) (fun W l o bZ _ h _ hw=>KeepsWalks.putObj _ h hw) OR (fun _=>rfl)
  (fun (xs:List (wX sz)) W=>nw E sz S w (xs.map Subtype.val) W) (fun _ _ _=>False) (fun s W cM row h aK aA=>nw.own E sz S w (s.map Subtype.val) W cM row h aK (fun r e=>by have:=aA r e;rw [Et] at this;exact this)) (fun _ _ _ _ _ h _ _=>h) ad7
  (fun x bO W=>uh fn.ntmps sz E w.heap.size x.1 bO W) (fun x bO=>uh.own _ _ _ _ _ _ _) ?_ ?_ ?_ (fun _ _ _ _ _ _ h _=>h.elim))
 ·intro l pre x W K g7 cW
  have w4:((#[7]:Array Nat).zip #[x.1])=#[(7,x.1)]:=by apply Array.ext';simp
  rw [w4]
  refine adQ (N:=fn.ntmps) (w0:=w) (xs:=pre.map Subtype.val) (x:=x.1) (fun _=>trivial) cL cY x.2 ?_ ?_ ?_ ?_ g7 ?_
  ·simp [qH]
  ·rfl
  ·simp only [List.size_toArray,List.length_cons,List.length_nil,Nat.zero_add,List.foldl_toArray',List.foldl_cons,List.foldl_nil]
   rw [Array.getElem?_setIfInBounds_self_of_lt (by omega)]
  ·simp only [List.size_toArray,List.length_cons,List.length_nil,Nat.zero_add,List.foldl_toArray',List.foldl_cons,List.foldl_nil]
   rw [Array.getElem?_setIfInBounds_ne (by omega)];exact OQ
  ·intro bO cM an ar aO bD
   exact cW bO cM (by rw [Et];exact an) ar aO bD
 ·intro l pre x bO W _ _ g7 dk hlen
  refine adT (w0:=w) (xs:=pre.map Subtype.val) (x:=x.1) (fun _=>trivial) cL eS x.2 dk g7 (by simp;omega) ?_
  intro aq0 cM an ar aO
  exact ⟨by rw [Et];exact an,ar,by simpa using aO⟩
 ·intro D xs W tF lk g7 cW
  show Code.wpIn _ _ _ _ _ _ W
  obtain ⟨v,pk,rM,Eo⟩:=g7.box
  refine wpIn_seq (wpIn_region_list ?_)
  generalize cy.toList=nh at fJ
  split at fJ
  case h_2=>cases fJ
  rename_i hP eA
  simp only [Bool.and_eq_true] at fJ
  obtain ⟨⟨⟨⟨⟨bo,d3⟩,cS⟩,cd⟩,d4⟩,eC⟩:=fJ
  obtain ⟨dS,f3⟩:=ny d3
  obtain ⟨h1,f4⟩:=ny d4
  have g3:W.cell? ⟨w.heap.size,0,none⟩=some v:=by simp [World.cell?,pk]
  refine nz ek bo (OI cS OQ cL.lk ⟨by simp,by simp⟩ g3) ?_
  rw [dS]
  refine nz ek cd (OH (v:=v) eC (by rw [en _ _ _ _ (by simp only;omega)];simp)) (wpListIn_nil ?_)
  rw [h1]
  refine wpIn_ret ?_
  obtain ⟨az,ad8,ad9⟩:=lk
  have OS:W.grownBy (W.putObj D (.deferred none)) (some D):=Go.grownBy_putObj' W D _
  have OT:=nw.own E sz S w _ W _ _ g7 OS (fun r e=>by cases e;exact ⟨by omega,_,cW,rfl⟩)
  obtain ⟨v2,pe,sa,aea⟩:=OT.box
  have aeb:v2=v:=by
   have bz:w.heap.size<W.heap.size:=(Array.getElem?_eq_some_iff.1 pk).1
   have:=OS.block w.heap.size bz (by simp;omega)
   rw [pe,pk] at this
   simp at this;exact this
  subst aeb
  refine ⟨by simp,.inl ⟨_,_,rfl,run_takeDeferred cW,?_⟩⟩
  show LeavesInM _ _ _ _ _ _ dR.defers _ _
  rw [o0]
  refine ⟨_,results_tmp wY _ _ _,v2,xs.map (·.1),az,?_,ad8,ad9,fun y aT=>?_,OT.below,sa,aea⟩
  ·simp [Act.put,Array.getD_eq_getD_getElem?,qH]
   omega
  ·obtain ⟨z,_,rfl⟩:=List.mem_map.1 aT
   exact z.2
end
end AM
/-! A form of the interpreter that the kernel evaluates more lightly: environments by their recursor, forced as they are built. -/
namespace AM
open Go
theorem Eu {a b:Nat} (h:a≠b):Nat.beq a b=false:=by
 cases ah:Nat.beq a b with
 | false=>rfl
 | true=>exact absurd (Nat.eq_of_beq_eq_true ah) h
theorem aec (a b:Nat):(a==b)=Nat.beq a b:=by
 by_cases h:a=b
 ·subst h;simp
 ·rw [Eu h];simpa using h
noncomputable def Env.jO (e:Env) (t:Nat):Option bU:=@List.rec (Nat×bU) (fun _=>Option bU) none (fun p _ ih=>@Bool.rec (fun _=>Option bU) ih (some p.2) (Nat.beq t p.1)) e
theorem Env.ll:∀(e:Env) (t:Nat),e.jO t=e.get t
 | [],_=>rfl
 | (k,x)::r,t=>by
  have ih:=Env.ll r t
  have h:Env.jO ((k,x)::r) t=@Bool.rec (fun _=>Option bU) (Env.jO r t) (some x) (Nat.beq t k):=rfl
  rw [h,ih]
  simp only [Env.get]
  by_cases e:t=k
  ·subst e;rw [Nat.beq_refl];simp
  ·rw [Eu e,if_neg e]
noncomputable def Env.nB {β:Type} (e:Env) (t:Nat) (x:bU) (k:Env→β):β :=
 @List.rec (Nat×bU) (fun _=>(Env→β)→β) (fun k=>k [(t,x)])
  (fun p r ih k=>@Bool.rec (fun _=>β) (@Bool.rec (fun _=>β) (ih (fun cQ=>k (p::cQ))) (k ((t,x)::r)) (Nat.beq t p.1)) (k ((t,x)::p::r)) (Nat.blt t p.1)) e k
theorem Env.w5 {β:Type}:∀(e:Env) (t:Nat) (x:bU) (k:Env→β),e.nB t x k=k (e.ins t x)
 | [],_,_,_=>rfl
 | (u,y)::r,t,x,k=>by
  have ih:=Env.w5 r t x (fun cQ=>k ((u,y)::cQ))
  have h:Env.nB ((u,y)::r) t x k=@Bool.rec (fun _=>β) (@Bool.rec (fun _=>β) (Env.nB r t x (fun cQ=>k ((u,y)::cQ))) (k ((t,x)::r)) (Nat.beq t u)) (k ((t,x)::(u,y)::r)) (Nat.blt t u):=rfl
  rw [h,ih]
  simp only [Env.ins]
  by_cases R:t<u
  ·rw [if_pos R]
   have:Nat.blt t u=true:=by simpa [Nat.blt_eq] using R
   rw [this]
  ·rw [if_neg R]
   have:Nat.blt t u=false:=by
    cases ah:Nat.blt t u with
    | false=>rfl
    | true=>exact absurd (Nat.blt_eq▸ah) R
   rw [this]
   by_cases aa:t=u
   ·subst aa;rw [Nat.beq_refl,if_pos rfl]
   ·rw [Eu aa,if_neg aa]
noncomputable def sd (t:Nat) (bk:List Nat):Bool:=@List.rec Nat (fun _=>Bool) false (fun u _ ih=>@Bool.rec (fun _=>Bool) ih true (Nat.beq t u)) bk
theorem Ev (t:Nat):∀bk:List Nat,sd t bk=bk.contains t
 | []=>rfl
 | u::r=>by
  have ih:=Ev t r
  have h:sd t (u::r)=@Bool.rec (fun _=>Bool) (sd t r) true (Nat.beq t u):=rfl
  rw [h,ih,List.contains_cons]
  rw [aec]
  cases Nat.beq t u<;>rfl
noncomputable def Env.pD {β:Type} (e:Env) (bk:List Nat) (k:Env→β):β :=
 @List.rec (Nat×bU) (fun _=>(Env→β)→β) (fun k=>k [])
  (fun p _ ih k=>@bU.rec (fun _=>β) (fun x=>@Bool.rec (fun _=>β) (ih (fun cQ=>k ((p.1,.v x)::cQ))) (ih k) (sd p.1 bk)) (fun cs=>@Bool.rec (fun _=>β) (ih (fun cQ=>k ((p.1,.b cs)::cQ))) (ih k) (sd p.1 bk)) (fun _ _=>ih k) p.2) e k
theorem Env.ui {β:Type}:∀(e:Env) (bk:List Nat) (k:Env→β),e.pD bk k=k (e.close bk)
 | [],_,_=>rfl
 | (u,.a v off)::r,bk,k=>Env.ui r bk k
 | (u,.v x)::r,bk,k=>by
  have h:Env.pD ((u,.v x)::r) bk k=@Bool.rec (fun _=>β) (Env.pD r bk (fun cQ=>k ((u,.v x)::cQ))) (Env.pD r bk k) (sd u bk):=rfl
  rw [h,Env.ui r,Env.ui r,Ev]
  simp only [Env.close]
  cases bk.contains u<;>rfl
 | (u,.b x)::r,bk,k=>by
  have h:Env.pD ((u,.b x)::r) bk k=@Bool.rec (fun _=>β) (Env.pD r bk (fun cQ=>k ((u,.b x)::cQ))) (Env.pD r bk k) (sd u bk):=rfl
  rw [h,Env.ui r,Env.ui r,Ev]
  simp only [Env.close]
  cases bk.contains u<;>rfl
def nC {β:Type} (n:Nat) (k:Nat→β):β:=match n with | 0=>k 0 | m+1=>k (m+1)
theorem OU {β:Type} (n:Nat) (k:Nat→β):nC n k=k n:=by cases n<;>rfl
def zR {β:Type} (x:AV) (k:AV→β):β:=match x with
 | .int qw (.ofNat n)=>nC n fun n=>k (.int qw (.ofNat n))
 | .int qw (.negSucc n)=>nC n fun n=>k (.int qw (.negSucc n))
 | .bool true=>k (.bool true)
 | .bool false=>k (.bool false)
 | .str l=>k (.str l)
 | .dP=>k .dP
 | .ptr a o=>nC a fun a=>nC o fun o=>k (.ptr a o)
 | .cU cs=>k (.cU cs)
 | .list o sz xs=>k (.list o sz xs)
 | .map i=>nC i fun i=>k (.map i)
 | .eN=>k .eN
 | .fn f cs=>k (.fn f cs)
 | .gz=>k .gz
 | .gm=>k .gm
 | .aH n=>k (.aH n)
 | .fb n=>k (.fb n)
 | .eE n=>k (.eE n)
 | .bI a b c d=>nC a fun a=>nC b fun b=>nC c fun c=>k (.bI a b c d)
 | .agg cs=>k (.agg cs)
 | .bw cs=>k (.bw cs)
theorem aed {β:Type} (x:AV) (k:AV→β):zR x k=k x:=by
 cases x<;>simp only [zR,OU]
 case bool b=>cases b<;>rfl
 case int qw n=>cases n<;>rfl
noncomputable def dc (gl:aR) (env:Env) (o:aq):Option AV:=@aq.rec (fun _=>Option AV)
 (fun n=>@Option.rec bU (fun _=>Option AV) none (fun e=>@bU.rec (fun _=>Option AV) (fun x=>some x) (fun _=>none) (fun _ _=>none) e) (Env.jO env n)) (fun x=>some x) (fun n=>some (.fn n [])) (fun n=>gl n) o
theorem eH (gl:aR) (env:Env) (o:aq):dc gl env o=bl gl env o:=by
 cases o with
 | t n =>
  have h:dc gl env (.t n)=@Option.rec bU (fun _=>Option AV) none (fun e=>@bU.rec (fun _=>Option AV) (fun x=>some x) (fun _=>none) (fun _ _=>none) e) (Env.jO env n):=rfl
  rw [h,Env.ll]
  simp only [bl]
  cases Env.get env n with
  | none=>rfl
  | some e=>cases e<;>rfl
 | _=>rfl
noncomputable def uj (env:Env) (d:Nat):Bool:=@Option.rec bU (fun _=>Bool) true (fun e=>@bU.rec (fun _=>Bool) (fun _=>true) (fun _=>false) (fun _ _=>false) e) (Env.jO env d)
theorem OV (env:Env) (d:Nat):uj env d=c9 env d:=by
 unfold uj c9
 rw [Env.ll]
 cases Env.get env d with
 | none=>rfl
 | some e=>cases e<;>rfl
noncomputable def ae.ch (s:ae) (d:Nat) (x:AV):Option ae:=@ae.rec (fun _=>Option ae)
 (fun e h=>@Bool.rec (fun _=>Option ae) none (zR x fun x=>e.nB d (.v x) fun bH=>some ⟨bH,h⟩) (uj e d)) s
theorem ae.dL (s:ae) (d:Nat) (x:AV):s.ch d x=s.put d x:=by
 obtain ⟨e,h⟩:=s
 have R:ae.ch ⟨e,h⟩ d x=@Bool.rec (fun _=>Option ae) none (zR x fun x=>e.nB d (.v x) fun bH=>some ⟨bH,h⟩) (uj e d):=rfl
 rw [R,aed,Env.w5,OV]
 simp only [ae.put]
 cases c9 e d<;>rfl
noncomputable def ae.w6 (s:ae) (d t off:Nat):Option ae:=@ae.rec (fun _=>Option ae)
 (fun e h=>@Bool.rec (fun _=>Option ae) none (nC off fun off=>e.nB d (.a t off) fun bH=>some ⟨bH,h⟩) (uj e d)) s
theorem ae.OW (s:ae) (d t off:Nat):s.w6 d t off=if c9 s.env d then some { s with env:=s.env.ins d (.a t off) } else none:=by
 obtain ⟨e,h⟩:=s
 have R:ae.w6 ⟨e,h⟩ d t off=@Bool.rec (fun _=>Option ae) none (nC off fun off=>e.nB d (.a t off) fun bH=>some ⟨bH,h⟩) (uj e d):=rfl
 rw [R,OU,Env.w5,OV]
 cases c9 e d<;>rfl
noncomputable def ae.zS (s:ae) (d:Nat) (cs:List AV):Option ae:=@ae.rec (fun _=>Option ae)
 (fun e h=>if hV e d||eJ e d then none else e.nB d (.b cs) fun bH=>some ⟨bH,h⟩) s
theorem ae.OX (s:ae) (d:Nat) (cs:List AV):s.zS d cs=s.hW d cs:=by
 obtain ⟨e,h⟩:=s
 have R:ae.zS ⟨e,h⟩ d cs=if hV e d||eJ e d then none else e.nB d (.b cs) fun bH=>some ⟨bH,h⟩:=rfl
 rw [R,Env.w5];rfl
noncomputable def qI (gl:aR) (env:Env):List aq→Option (List AV)
 | []=>some []
 | x::r=>match dc gl env x,qI gl env r with | some v,some vs=>some (v::vs) | _,_=>none
theorem uk (gl:aR) (env:Env):∀xs,qI gl env xs=dQ gl env xs
 | []=>rfl
 | x::r=>by simp only [qI,dQ,eH,uk gl env r]<;>rfl
noncomputable def pE (gl:aR) (env:Env):aq→Option iD
 | .t n=>match Env.jO env n with
  | some (.b _)=>some (.cV n 0)
  | some (.a t off)=>some (.cV t off)
  | some (.v (.ptr id off))=>some (.ao id off)
  | some (.v (.cU cs))=>some (.fl cs)
  | _=>none
 | .g n=>match gl n with | some (.cU cs)=>some (.fl cs) | _=>none
 | _=>none
theorem se (gl:aR) (env:Env) (o:aq):pE gl env o=dn gl env o:=by
 cases o<;>simp only [pE,dn,Env.ll]<;>rfl
noncomputable def mD (gl:aR) (env:Env) (oQ:Nat):Option aq→Option Int
 | none=>some oQ
 | some x=>match dc gl env x with | some (.int _ n)=>some n | _=>none
theorem OY (gl:aR) (env:Env) (oQ:Nat) (o:Option aq):mD gl env oQ o=hd gl env oQ o:=by
 cases o<;>simp only [mD,hd,eH]<;>rfl
noncomputable def zT (s:ae) (n:Nat):iD→Option (List AV)
 | .cV t off=>match Env.jO s.env t with
  | some (.b cs)=>if off+n≤cs.length then some ((cs.drop off).take n) else none
  | _=>none
 | .ao id off=>match s.heap[id]? with
  | some (.cells cs)=>if off+n≤cs.length then some ((cs.drop off).take n) else none
  | some (.buf _ cs)=>if off+n≤cs.length then some ((cs.drop off).take n) else none
  | _=>none
 | .fl cs=>if n≤cs.length then some (cs.take n) else none
theorem OZ (s:ae) (n:Nat) (p:iD):zT s n p=aV s n p:=by
 cases p<;>simp only [zT,aV,Env.ll]<;>rfl
noncomputable def um (s:ae) (vs:List AV):iD→Option ae
 | .cV t off=>match Env.jO s.env t with
  | some (.b cs)=>if off+vs.length≤cs.length then @ae.rec (fun _=>Option ae) (fun e h=>e.nB t (.b (eV cs off vs)) fun bH=>some ⟨bH,h⟩) s else none
  | _=>none
 | .ao id off=>match s.heap[id]? with
  | some (.cells cs)=>if off+vs.length≤cs.length then some { s with heap:=s.heap.set id (.cells (eV cs off vs)) } else none
  | some (.buf e cs)=>if off+vs.length≤cs.length then some { s with heap:=s.heap.set id (.buf e (eV cs off vs)) } else none
  | _=>none
 | .fl _=>none
theorem Ew (s:ae) (vs:List AV) (p:iD):um s vs p=aW s vs p:=by
 cases p with
 | cV t off =>
  have h:∀x:List AV,(@ae.rec (fun _=>Option ae) (fun e h=>e.nB t (.b x) fun bH=>some ⟨bH,h⟩) s)=some { s with env:=s.env.ins t (.b x) }:=fun x=>by
   obtain ⟨e,h⟩:=s
   exact Env.w5 _ _ _ _
  simp only [um,aW,Env.ll,h]<;>rfl
 | ao id off=>simp only [um,aW]<;>rfl
 | fl cs=>rfl
end AM
/-! Printed by wip/gen/mkk.py: each operation as a function of its own, over the lighter primitives; it is the operation. -/
namespace AM
open Go
noncomputable def Ex (gl:aR) (d:Nat) (x:aq) (s:ae):Option ae:=(dc gl s.env x).bind fun v=>s.ch d v.aL
theorem aee (gl:aR) (d:Nat) (x:aq) (s:ae):Ex gl d x s=au gl s (.I d x):=by
 simp only [Ex,au,eH,ae.dL]<;>rfl
noncomputable def Ey (_gl:aR) (d:Nat) (x:Nat) (s:ae):Option ae:=match Env.jO s.env x with
  | some (.v (.list (some e) sz xs))=>if d=x then none else (s.ch x (.list none sz xs)).bind fun s=>s.ch d (.list (some e) sz xs)
  | some (.v v)=>s.ch d v.aL
  | _=>none
theorem aef (gl:aR) (d:Nat) (x:Nat) (s:ae):Ey gl d x s=au gl s (.bg d x):=by
 simp only [Ey,au,Env.ll,ae.dL]<;>rfl
noncomputable def Ez (_gl:aR) (d:Nat) (e:Nat) (sz:Nat) (s:ae):Option ae:=s.ch d (.list (some e) sz [])
theorem aeg (gl:aR) (d:Nat) (e:Nat) (sz:Nat) (s:ae):Ez gl d e sz s=au gl s (.hr d e sz):=by
 simp only [Ez,au,ae.dL]<;>rfl
noncomputable def EA (gl:aR) (d:Nat) (c:aq) (a:aq) (b:aq) (s:ae):Option ae:=match dc gl s.env c with
  | some (.bool t)=>if t=true then (dc gl s.env a).bind fun v=>s.ch d v.aL else (dc gl s.env b).bind fun v=>s.ch d v.aL
  | _=>none
theorem aeh (gl:aR) (d:Nat) (c:aq) (a:aq) (b:aq) (s:ae):EA gl d c a b s=au gl s (.pick d c a b):=by
 simp only [EA,au,eH,ae.dL]<;>rfl
noncomputable def EB (gl:aR) (d:Nat) (m:Nat) (op:BinOp) (x:aq) (y:aq) (s:ae):Option ae:=match dc gl s.env x,dc gl s.env y with
  | some a,some b=>(vi m op a b).bind fun v=>s.ch d v
  | _,_=>none
theorem aei (gl:aR) (d:Nat) (m:Nat) (op:BinOp) (x:aq) (y:aq) (s:ae):EB gl d m op x y s=au gl s (.bin d m op x y):=by
 simp only [EB,au,eH,ae.dL]<;>rfl
noncomputable def EC (gl:aR) (d:Nat) (ne:Bool) (az:List Nat) (x:aq) (y:aq) (s:ae):Option ae:=match dc gl s.env x,dc gl s.env y with
  | some (.agg a),some (.agg b)=>(nU az a b).bind fun r=>s.ch d (.bool (if ne=true then !r else r))
  | _,_=>none
theorem aej (gl:aR) (d:Nat) (ne:Bool) (az:List Nat) (x:aq) (y:aq) (s:ae):EC gl d ne az x y s=au gl s (.kV d ne az x y):=by
 simp only [EC,au,eH,ae.dL]<;>rfl
noncomputable def ED (gl:aR) (d:Nat) (x:aq) (s:ae):Option ae:=match dc gl s.env x with | some (.bool b)=>s.ch d (.bool (!b)) | _=>none
theorem aek (gl:aR) (d:Nat) (x:aq) (s:ae):ED gl d x s=au gl s (.cB d x):=by
 simp only [ED,au,eH,ae.dL]<;>rfl
noncomputable def EE (gl:aR) (d:Nat) (x:aq) (s:ae):Option ae:=match dc gl s.env x with | some (.int k n)=>s.ch d (.int k (k.wrap (0 - n))) | _=>none
theorem ael (gl:aR) (d:Nat) (x:aq) (s:ae):EE gl d x s=au gl s (.neg d x):=by
 simp only [EE,au,eH,ae.dL]<;>rfl
noncomputable def EF (gl:aR) (d:Nat) (k:IntKind) (x:aq) (s:ae):Option ae:=match dc gl s.env x with | some (.int _ n)=>s.ch d (.int k (k.wrap n)) | _=>none
theorem aem (gl:aR) (d:Nat) (k:IntKind) (x:aq) (s:ae):EF gl d k x s=au gl s (.conv d k x):=by
 simp only [EF,au,eH,ae.dL]<;>rfl
noncomputable def EG (_gl:aR) (d:Nat) (x:Nat) (i:Nat) (s:ae):Option ae:=match Env.jO s.env x with | some (.v (.bw vs))=>(vs[i]?).bind fun v=>s.ch d v.aL | _=>none
theorem aen (gl:aR) (d:Nat) (x:Nat) (i:Nat) (s:ae):EG gl d x i s=au gl s (.ext d x i):=by
 simp only [EG,au,Env.ll,ae.dL]<;>rfl
noncomputable def EH (gl:aR) (d:Nat) (m:Nat) (x:aq) (s:ae):Option ae:=match dc gl s.env x with
  | some (.list _ _ xs)=>if m=1 then s.ch d (.int .i64 xs.length) else none
  | some (.str b)=>if m=0 then s.ch d (.int .i64 b.length) else none
  | some .eN=>if m=2 then s.ch d (.int .i64 0) else none
  | some (.aH _)=>if m=1 then s.ch d (.int .i64 0) else none
  | some (.eE _)=>if m=1 then s.ch d (.int .i64 0) else none
  | some (.bI _ _ n _)=>if m=1 then s.ch d (.int .i64 n) else none
  | some (.map id)=>if m=2 then (match s.heap[id]? with | some (.map _ es)=>s.ch d (.int .i64 es.length) | _=>none) else none
  | _=>none
theorem aeo (gl:aR) (d:Nat) (m:Nat) (x:aq) (s:ae):EH gl d m x s=au gl s (.len d m x):=by
 simp only [EH,au,eH,ae.dL]<;>rfl
noncomputable def EI (_gl:aR) (d:Nat) (z:List AV) (s:ae):Option ae:=s.zS d z
theorem aep (gl:aR) (d:Nat) (z:List AV) (s:ae):EI gl d z s=au gl s (.alloc d z):=by
 simp only [EI,au,ae.OX]<;>rfl
noncomputable def EJ (gl:aR) (d:Nat) (x:aq) (s:ae):Option ae:=(dc gl s.env x).bind fun v=>if v.cells.all AV.one then s.zS d (v.cells.map AV.aL) else none
theorem aeq (gl:aR) (d:Nat) (x:aq) (s:ae):EJ gl d x s=au gl s (.box d x):=by
 simp only [EJ,au,eH,ae.OX]<;>rfl
noncomputable def EK (_gl:aR) (d:Nat) (z:List AV) (s:ae):Option ae:=({ s with heap:=s.heap++[aM.cells z] }).ch d (.ptr s.heap.length 0)
theorem aer (gl:aR) (d:Nat) (z:List AV) (s:ae):EK gl d z s=au gl s (.g0 d z):=by
 simp only [EK,au,ae.dL]<;>rfl
noncomputable def EL (gl:aR) (d:Nat) (x:aq) (s:ae):Option ae:=(dc gl s.env x).bind fun v=>if v.cells.all AV.one then ({ s with heap:=s.heap++[aM.cells (v.cells.map AV.aL)] }).ch d (.ptr s.heap.length 0) else none
theorem aes (gl:aR) (d:Nat) (x:aq) (s:ae):EL gl d x s=au gl s (.iR d x):=by
 simp only [EL,au,eH,ae.dL]<;>rfl
noncomputable def EM (gl:aR) (d:Nat) (x:aq) (s:ae):Option ae:=(dc gl s.env x).bind fun v=>if v.cells.all AV.dw then s.ch d (.cU v.cells) else none
theorem aet (gl:aR) (d:Nat) (x:aq) (s:ae):EM gl d x s=au gl s (.cz d x):=by
 simp only [EM,au,eH,ae.dL]<;>rfl
noncomputable def EN (gl:aR) (d:Nat) (z:List AV) (parts:List (Nat×Nat×aq)) (s:ae):Option ae:=(jA gl s.env z parts).bind fun cs=>s.ch d (.agg cs)
theorem aeu (gl:aR) (d:Nat) (z:List AV) (parts:List (Nat×Nat×aq)) (s:ae):EN gl d z parts s=au gl s (.build d z parts):=by
 simp only [EN,au,ae.dL]<;>rfl
noncomputable def EO (gl:aR) (d:Nat) (sz:Nat) (xs:List aq) (s:ae):Option ae:=(qI gl s.env xs).bind fun vs =>
   if vs.all (fun v=>v.aL.pure&&v.cells.length==sz)&&decide (vs.length≤1000) then s.ch d (.list none sz (vs.map AV.aL)) else none
theorem aev (gl:aR) (d:Nat) (sz:Nat) (xs:List aq) (s:ae):EO gl d sz xs s=au gl s (.lit d sz xs):=by
 simp only [EO,au,uk,ae.dL]<;>rfl
noncomputable def EP (gl:aR) (d:Nat) (x:aq) (off:Nat) (s:ae):Option ae:=match pE gl s.env x with
  | some (.cV t o)=>s.w6 d t (o+off)
  | some (.ao id o)=>s.ch d (.ptr id (o+off))
  | some (.fl cs)=>if off≤cs.length then s.ch d (.cU (cs.drop off)) else none
  | none=>none
theorem aew (gl:aR) (d:Nat) (x:aq) (off:Nat) (s:ae):EP gl d x off s=au gl s (.aC d x off):=by
 simp only [EP,au,se,ae.dL,ae.OW]<;>rfl
noncomputable def ER (gl:aR) (d:Nat) (sz:Nat) (x:aq) (i:aq) (s:ae):Option ae:=match dc gl s.env x,dc gl s.env i with
  | some (.list _ b8 xs),some (.int _ n)=>if b8=sz∧0≤n∧n<xs.length then (xs[n.toNat]?).bind fun v=>s.ch d (.cU v.cells) else none
  | some (.bI id off m b8),some (.int _ n)=>if b8=sz∧0≤n∧n<m then s.ch d (.ptr id (off+n.toNat*sz)) else none
  | _,_=>none
theorem aex (gl:aR) (d:Nat) (sz:Nat) (x:aq) (i:aq) (s:ae):ER gl d sz x i s=au gl s (.bm d sz x i):=by
 simp only [ER,au,eH,ae.dL]<;>rfl
noncomputable def ES (gl:aR) (d:Nat) (x:aq) (n:Nat) (sz:Nat) (i:aq) (s:ae):Option ae:=match pE gl s.env x,dc gl s.env i with
  | some (.cV t o),some (.int _ k)=>if 0≤k∧k<n∧c9 s.env d=true then some { s with env:=s.env.ins d (.a t (o+k.toNat*sz)) } else none
  | some (.ao id o),some (.int _ k)=>if 0≤k∧k<n then s.ch d (.ptr id (o+k.toNat*sz)) else none
  | some (.fl cs),some (.int _ k)=>if 0≤k∧k<n∧n*sz≤cs.length then s.ch d (.cU (cs.drop (k.toNat*sz))) else none
  | _,_=>none
theorem aey (gl:aR) (d:Nat) (x:aq) (n:Nat) (sz:Nat) (i:aq) (s:ae):ES gl d x n sz i s=au gl s (.jR d x n sz i):=by
 simp only [ES,au,eH,se,ae.dL]<;>rfl
noncomputable def ET (gl:aR) (d:Nat) (x:aq) (n:Nat) (ag:Bool) (s:ae):Option ae:=(pE gl s.env x).bind fun p=>(zT s n p).bind fun cs =>
   if ag=true then s.ch d (.agg (cs.map AV.aL)) else match cs with | [v]=>s.ch d v.aL | _=>none
theorem aez (gl:aR) (d:Nat) (x:aq) (n:Nat) (ag:Bool) (s:ae):ET gl d x n ag s=au gl s (.ak d x n ag):=by
 simp only [ET,au,se,ae.dL,OZ]<;>rfl
noncomputable def EU (gl:aR) (d:Nat) (x:aq) (e:Nat) (sz:Nat) (s:ae):Option ae:=(pE gl s.env x).bind fun p=>(zT s 1 p).bind fun cs=>match cs with
   | [.list (some e) sz xs]=>(um s [.list none sz xs] p).bind fun s=>s.ch d (.list (some e) sz xs)
   | [.aH _]=>s.ch d (.list (some e) sz [])
   | _=>none
theorem aeA (gl:aR) (d:Nat) (x:aq) (e:Nat) (sz:Nat) (s:ae):EU gl d x e sz s=au gl s (.gO d x e sz):=by
 simp only [EU,au,se,ae.dL,OZ,Ew]<;>rfl
noncomputable def EV (gl:aR) (n:Nat) (x:aq) (v:aq) (s:ae):Option ae:=(pE gl s.env x).bind fun p=>(dc gl s.env v).bind fun v=>if v.cells.length=n∧v.cells.all AV.one then um s (v.cells.map AV.aL) p else none
theorem aeB (gl:aR) (n:Nat) (x:aq) (v:aq) (s:ae):EV gl n x v s=au gl s (.st n x v):=by
 simp only [EV,au,eH,se,Ew]<;>rfl
noncomputable def EW (gl:aR) (x:aq) (v:Nat) (s:ae):Option ae:=(pE gl s.env x).bind fun p=>match Env.jO s.env v with
   | some (.v (.list (some e) sz xs))=>(s.ch v (.list none sz xs)).bind fun s=>um s [.list (some e) sz xs] p
   | _=>none
theorem aeC (gl:aR) (x:aq) (v:Nat) (s:ae):EW gl x v s=au gl s (.fW x v):=by
 simp only [EW,au,Env.ll,se,ae.dL,Ew]<;>rfl
noncomputable def EX (gl:aR) (d:Nat) (x:aq) (i:aq) (s:ae):Option ae:=match dc gl s.env x,dc gl s.env i with
  | some (.str b),some (.int _ n)=>if 0≤n then (b[n.toNat]?).bind fun c=>s.ch d (.int .u8 c.toNat) else none
  | _,_=>none
theorem aeD (gl:aR) (d:Nat) (x:aq) (i:aq) (s:ae):EX gl d x i s=au gl s (.idx d x i):=by
 simp only [EX,au,eH,ae.dL]<;>rfl
noncomputable def EY (gl:aR) (d:Nat) (g2:Nat) (x:aq) (aX:Option aq) (av:Option aq) (s:ae):Option ae:=match dc gl s.env x with
  | some (.str b)=>match mD gl s.env 0 aX,mD gl s.env b.length av with
   | some l,some h=>if g2=0∧0≤l∧l≤h∧h≤b.length then s.ch d (.str ((b.take h.toNat).drop l.toNat)) else none
   | _,_=>none
  | some (.list _ sz xs)=>match mD gl s.env 0 aX,mD gl s.env xs.length av with
   | some l,some h=>if g2=sz∧sz≠0∧0≤l∧l≤h∧h≤xs.length then s.ch d (.list none sz ((xs.take h.toNat).drop l.toNat)) else none
   | _,_=>none
  | some (.aH sz)=>match mD gl s.env 0 aX,mD gl s.env 0 av with
   | some l,some h=>if g2=sz∧sz≠0∧l=0∧h=0 then s.ch d (.aH sz) else none
   | _,_=>none
  | some (.bI id off n sz)=>match mD gl s.env 0 aX,mD gl s.env n av with
   | some l,some h=>if g2=sz∧sz≠0∧0≤l∧l≤h∧h≤n then (if 0<l∧l=h then s.ch d (.list none sz []) else s.ch d (.bI id (off+l.toNat*sz) (h.toNat - l.toNat) sz)) else none
   | _,_=>none
  | _=>none
theorem aeE (gl:aR) (d:Nat) (g2:Nat) (x:aq) (aX:Option aq) (av:Option aq) (s:ae):EY gl d g2 x aX av s=au gl s (.hU d g2 x aX av):=by
 simp only [EY,au,eH,OY,ae.dL]<;>rfl
noncomputable def EZ (gl:aR) (d:Nat) (x:aq) (n:Nat) (sz:Nat) (aX:Option aq) (av:Option aq) (s:ae):Option ae:=match pE gl s.env x with
  | some (.fl cs)=>if cs.length=n*sz∧n≤1000 then match mD gl s.env 0 aX,mD gl s.env n av with
   | some l,some h=>if 0≤l∧l≤h∧h≤n then s.ch d (.list none sz (((chunk sz n cs).take h.toNat).drop l.toNat)) else none
   | _,_=>none
   else none
  | _=>none
theorem aeF (gl:aR) (d:Nat) (x:aq) (n:Nat) (sz:Nat) (aX:Option aq) (av:Option aq) (s:ae):EZ gl d x n sz aX av s=au gl s (.jw d x n sz aX av):=by
 simp only [EZ,au,se,OY,ae.dL]<;>rfl
noncomputable def E0 (gl:aR) (d:Nat) (u:Nat) (x:aq) (e:Nat) (sz:Nat) (s:ae):Option ae:=match Env.jO s.env u,(dc gl s.env x).bind AV.fy with
  | some (.v (.list (some bH) b8 xs)),some (gA,ys) =>
   if bH=e∧b8=sz∧gA=sz∧d≠u∧xs.length+ys.length≤M then
    (s.ch u (.list none sz xs)).bind fun s=>s.ch d (.list (some e) sz (xs++ys)) else none
  | some (.v (.aH b8)),some (gA,ys)=>if b8=sz∧gA=sz∧d≠u∧ys.length≤M then s.ch d (.list (some e) sz ys) else none
  | _,_=>none
theorem aeG (gl:aR) (d:Nat) (u:Nat) (x:aq) (e:Nat) (sz:Nat) (s:ae):E0 gl d u x e sz s=au gl s (.app d u x e sz):=by
 simp only [E0,au,Env.ll,eH,ae.dL]<;>rfl
noncomputable def E1 (_gl:aR) (d:Nat) (x:aq) (s:ae):Option ae:=match x with
  | .t n=>match Env.jO s.env n with
   | some (.b _)=>s.w6 d n 0
   | some (.a t off)=>s.w6 d t off
   | some (.v (.ptr id off))=>s.ch d (.ptr id off)
   | some (.v (.cU cs))=>s.ch d (.cU cs)
   | _=>none
  | _=>none
theorem aeH (gl:aR) (d:Nat) (x:aq) (s:ae):E1 gl d x s=au gl s (.bV d x):=by
 simp only [E1,au,Env.ll,ae.dL,ae.OW]<;>rfl
noncomputable def E2 (gl:aR) (d:Nat) (f:Nat) (eu:List aq) (s:ae):Option ae:=(qI gl s.env eu).bind fun vs=>if vs.all AV.one then s.ch d (.fn f (vs.map AV.aL)) else none
theorem aeI (gl:aR) (d:Nat) (f:Nat) (eu:List aq) (s:ae):E2 gl d f eu s=au gl s (.iS d f eu):=by
 simp only [E2,au,uk,ae.dL]<;>rfl
noncomputable def E3 (gl:aR) (d:Nat) (c:aq) (e:Nat) (sz:Nat) (s:ae):Option ae:=match dc gl s.env c with
  | some (.int _ n)=>if 0≤n∧n≤M then s.ch d (.list (some e) sz []) else none
  | _=>none
theorem aeJ (gl:aR) (d:Nat) (c:aq) (e:Nat) (sz:Nat) (s:ae):E3 gl d c e sz s=au gl s (.lz d c e sz):=by
 simp only [E3,au,eH,ae.dL]<;>rfl
noncomputable def E4 (_gl:aR) (d:Nat) (e:Nat) (z:List AV) (s:ae):Option ae:=({ s with heap:=s.heap++[aM.buf e z,.dead] }).ch d (.ptr s.heap.length 0)
theorem aeK (gl:aR) (d:Nat) (e:Nat) (z:List AV) (s:ae):E4 gl d e z s=au gl s (.mR d e z):=by
 simp only [E4,au,ae.dL]<;>rfl
noncomputable def E5 (gl:aR) (d:Nat) (x:aq) (e:Nat) (sz:Nat) (s:ae):Option ae:=match dc gl s.env x with
  | some (.ptr id 0)=>(match s.heap[id]? with | some (.buf bH cs)=>if bH=e∧sz≤cs.length then s.ch d (.ptr id 0) else none | _=>none)
  | _=>none
theorem aeL (gl:aR) (d:Nat) (x:aq) (e:Nat) (sz:Nat) (s:ae):E5 gl d x e sz s=au gl s (.mh d x e sz):=by
 simp only [E5,au,eH,ae.dL]<;>rfl
noncomputable def E6 (gl:aR) (d:Nat) (fz:Bool) (x:aq) (y:aq) (s:ae):Option ae:=match dc gl s.env x,dc gl s.env y with
  | some (.int k a),some (.int _ b)=>s.ch d (.int k (if fz=true then (if b>a then b else a) else (if b<a then b else a)))
  | _,_=>none
theorem aeM (gl:aR) (d:Nat) (fz:Bool) (x:aq) (y:aq) (s:ae):E6 gl d fz x y s=au gl s (.jS d fz x y):=by
 simp only [E6,au,eH,ae.dL]<;>rfl
noncomputable def E7 (_gl:aR) (d:Nat) (s:ae):Option ae:=({ s with heap:=s.heap++[aM.map 0 []] }).ch d (.map s.heap.length)
theorem aeN (gl:aR) (d:Nat) (s:ae):E7 gl d s=au gl s (.jx d):=by
 simp only [E7,au,ae.dL]<;>rfl
noncomputable def E8 (gl:aR) (az:List Nat) (d:Nat) (m:aq) (k:aq) (zero:AV) (ok:Bool) (s:ae):Option ae:=match dc gl s.env m,dc gl s.env k with
  | some (.map id),some kk=>match s.heap[id]? with
   | some (.map _ es)=>if e2 az kk&&lC az es then
     (match gP es kk with
      | some v=>s.ch d (if ok=true then .bw [v.aL,.bool true] else v.aL)
      | none=>s.ch d (if ok=true then .bw [zero,.bool false] else zero)) else none
   | _=>none
  | some .eN,some kk=>if e2 az kk then s.ch d (if ok=true then .bw [zero,.bool false] else zero) else none
  | _,_=>none
theorem aeO (gl:aR) (az:List Nat) (d:Nat) (m:aq) (k:aq) (zero:AV) (ok:Bool) (s:ae):E8 gl az d m k zero ok s=au gl s (.look az d m k zero ok):=by
 simp only [E8,au,eH,ae.dL]<;>rfl
noncomputable def E9 (gl:aR) (az:List Nat) (d:Nat) (m:aq) (k:aq) (zero:AV) (s:ae):Option ae:=match dc gl s.env m,dc gl s.env k with
  | some (.map id),some kk=>match s.heap[id]? with
   | some (.map n es)=>if e2 az kk&&lC az es then
     (match gP es kk with
      | some (.list (some e) sz xs)=>({ s with heap:=s.heap.set id (.map n (oR es kk (.list none sz xs))) }).ch d (.list (some e) sz xs)
      | some _=>none
      | none=>s.ch d zero) else none
   | _=>none
  | _,_=>none
theorem aeP (gl:aR) (az:List Nat) (d:Nat) (m:aq) (k:aq) (zero:AV) (s:ae):E9 gl az d m k zero s=au gl s (.fX az d m k zero):=by
 simp only [E9,au,eH,ae.dL]<;>rfl
noncomputable def Fa (gl:aR) (az:List Nat) (m:aq) (k:aq) (v:aq) (s:ae):Option ae:=match dc gl s.env m,dc gl s.env k,dc gl s.env v with
  | some (.map id),some kk,some v=>match s.heap[id]? with
   | some (.map n es)=>if e2 az kk&&lC az es then some { s with heap:=s.heap.set id (oS n es kk v.aL) } else none
   | _=>none
  | _,_,_=>none
theorem aeQ (gl:aR) (az:List Nat) (m:aq) (k:aq) (v:aq) (s:ae):Fa gl az m k v s=au gl s (.iT az m k v):=by
 simp only [Fa,au,eH]<;>rfl
noncomputable def Fb (gl:aR) (az:List Nat) (m:aq) (k:aq) (v:Nat) (s:ae):Option ae:=match dc gl s.env m,dc gl s.env k,Env.jO s.env v with
  | some (.map id),some kk,some (.v (.list (some e) sz xs))=>match s.heap[id]? with
   | some (.map n es)=>if e2 az kk&&lC az es then ({ s with heap:=s.heap.set id (oS n es kk (.list (some e) sz xs)) }).ch v (.list none sz xs) else none
   | _=>none
  | _,_,_=>none
theorem aeR (gl:aR) (az:List Nat) (m:aq) (k:aq) (v:Nat) (s:ae):Fb gl az m k v s=au gl s (.lA az m k v):=by
 simp only [Fb,au,Env.ll,eH,ae.dL]<;>rfl
noncomputable def Fc (gl:aR) (az:List Nat) (d:Option Nat) (m:aq) (k:aq) (s:ae):Option ae:=match dc gl s.env m,dc gl s.env k with
  | some (.map id),some kk=>match s.heap[id]? with
   | some (.map n es)=>if e2 az kk&&lC az es then ({ s with heap:=s.heap.set id (.map n (re es kk)) }).ef d (.bw []) else none
   | _=>none
  | _,_=>none
theorem aeS (gl:aR) (az:List Nat) (d:Option Nat) (m:aq) (k:aq) (s:ae):Fc gl az d m k s=au gl s (.kW az d m k):=by
 simp only [Fc,au,eH]<;>rfl
noncomputable def Fe (gl:aR) (d:Nat) (m:aq) (s:ae):Option ae:=match dc gl s.env m with
  | some (.map id)=>match s.heap[id]? with
   | some (.map n _)=>({ s with heap:=s.heap++[aM.iter (some id) n []] }).ch d (.ptr s.heap.length 0)
   | _=>none
  | some .eN=>({ s with heap:=s.heap++[aM.iter none 0 []] }).ch d (.ptr s.heap.length 0)
  | _=>none
theorem aeT (gl:aR) (d:Nat) (m:aq) (s:ae):Fe gl d m s=au gl s (.kX d m):=by
 simp only [Fe,au,eH,ae.dL]<;>rfl
noncomputable def Ff (gl:aR) (d:Nat) (it:aq) (s:ae):Option ae:=match dc gl s.env it with
  | some (.ptr id 0)=>match s.heap[id]? with
   | some (.iter (some a7) since seen)=>match s.heap[a7]?,seen.getLast? with
    | some (.map n es),some k=>if n=since then (gP es k).bind fun v=>s.ch d (.bw [k,v.aL]) else none
    | _,_=>none
   | _=>none
  | _=>none
theorem aeU (gl:aR) (d:Nat) (it:aq) (s:ae):Ff gl d it s=au gl s (.iU d it):=by
 simp only [Ff,au,eH,ae.dL]<;>rfl
noncomputable def Fg (gl:aR) (d:Nat) (e:Nat) (sz:Nat) (xs:List aq) (s:ae):Option ae:=(qI gl s.env xs).bind fun vs =>
   if vs.all (fun v=>v.aL.pure&&v.cells.length==sz)&&decide (vs.length≤1000) then s.ch d (.list (some e) sz (vs.map AV.aL)) else none
theorem aeV (gl:aR) (d:Nat) (e:Nat) (sz:Nat) (xs:List aq) (s:ae):Fg gl d e sz xs s=au gl s (.mi d e sz xs):=by
 simp only [Fg,au,uk,ae.dL]<;>rfl
noncomputable def Fh (gl:aR) (d:Nat) (e:Nat) (sz:Nat) (xs:List aq) (s:ae):Option ae:=(qI gl s.env xs).bind fun vs =>
   if vs.all (fun v=>v.cells.length==sz&&v.cells.all AV.one)&&decide (vs.length≤1000)&&sz != 0 then
    ({ s with heap:=s.heap++[aM.buf e (vs.map fun v:AV=>v.cells.map AV.aL).flatten,.dead] }).ch d (.bI s.heap.length 0 vs.length sz) else none
theorem aeW (gl:aR) (d:Nat) (e:Nat) (sz:Nat) (xs:List aq) (s:ae):Fh gl d e sz xs s=au gl s (.kr d e sz xs):=by
 simp only [Fh,au,uk,ae.dL]<;>rfl
noncomputable def Fi (gl:aR) (d:Nat) (e:Nat) (z:List AV) (x:aq) (s:ae):Option ae:=match dc gl s.env x with
  | some (.int _ n)=>if 0≤n∧n≤100000 then ({ s with heap:=s.heap++[aM.buf e (List.replicate n.toNat z).flatten,.dead] }).ch d (.bI s.heap.length 0 n.toNat z.length) else none
  | _=>none
theorem aeX (gl:aR) (d:Nat) (e:Nat) (z:List AV) (x:aq) (s:ae):Fi gl d e z x s=au gl s (.jT d e z x):=by
 simp only [Fi,au,eH,ae.dL]<;>rfl
noncomputable def Fj (gl:aR) (d:Nat) (e:Nat) (sz:Nat) (sb:Bool) (u:aq) (x:aq) (s:ae):Option ae:=match dc gl s.env u,(dc gl s.env x).bind (AV.sP sb) with
  | some (.aH jW),some (b8,ys)=>if jW=sz∧b8=sz∧ys.length≤M then match ys with
    | []=>s.ch d (.aH sz)
    | _::_=>({ s with heap:=s.heap++[aM.buf e (ys.map fun v:AV=>v.cells.map AV.aL).flatten,.dead] }).ch d (.bI s.heap.length 0 ys.length sz)
    else none
  | some (.bI id 0 n jW),some (b8,ys)=>match s.heap[id]? with
   | some (.buf bH cs)=>if bH=e∧jW=sz∧b8=sz∧n*sz≤cs.length∧n+ys.length≤M then
     ({ s with heap:=s.heap.set id .dead++[aM.buf e ((cs.take (n*sz)).map AV.aL++(ys.map fun v:AV=>v.cells.map AV.aL).flatten),.dead] }).ch d (.bI s.heap.length 0 (n+ys.length) sz) else none
   | _=>none
  | _,_=>none
theorem aeY (gl:aR) (d:Nat) (e:Nat) (sz:Nat) (sb:Bool) (u:aq) (x:aq) (s:ae):Fj gl d e sz sb u x s=au gl s (.jy d e sz sb u x):=by
 simp only [Fj,au,eH,ae.dL]<;>rfl
noncomputable def Fk (gl:aR) (d:Nat) (u:Nat) (x:aq) (e:Nat) (sz:Nat) (s:ae):Option ae:=match Env.jO s.env u,(dc gl s.env x).bind AV.fy with
  | some (.v (.fb b8)),some (gA,ys)=>if b8=sz∧gA=sz∧ys.length≤M then match ys with
    | []=>s.ch d (.list none sz [])
    | _::_=>s.ch d (.list (some e) sz ys)
    else none
  | _,_=>none
theorem aeZ (gl:aR) (d:Nat) (u:Nat) (x:aq) (e:Nat) (sz:Nat) (s:ae):Fk gl d u x e sz s=au gl s (.mj d u x e sz):=by
 simp only [Fk,au,Env.ll,eH,ae.dL]<;>rfl
noncomputable def Fl (gl:aR) (d:Nat) (u:Nat) (x:aq) (e:Nat) (sz:Nat) (s:ae):Option ae:=match Env.jO s.env u,(dc gl s.env x).bind AV.fy with
  | some (.v (.fb b8)),some (gA,ys)=>if b8=sz∧gA=sz∧ys.length≤M then match ys with
    | []=>s.ch d (.list none sz [])
    | _::_=>({ s with heap:=s.heap++[aM.buf e (ys.map fun v:AV=>v.cells.map AV.aL).flatten,.dead] }).ch d (.bI s.heap.length 0 ys.length sz)
    else none
  | _,_=>none
theorem ae0 (gl:aR) (d:Nat) (u:Nat) (x:aq) (e:Nat) (sz:Nat) (s:ae):Fl gl d u x e sz s=au gl s (.mS d u x e sz):=by
 simp only [Fl,au,Env.ll,eH,ae.dL]<;>rfl
noncomputable def Fm (gl:aR) (d:Nat) (ne:Bool) (x:aq) (s:ae):Option ae:=match dc gl s.env x with
  | some (.aH _)=>s.ch d (.bool (!ne))
  | some (.eE _)=>s.ch d (.bool ne)
  | some (.list _ _ (_::_))=>s.ch d (.bool ne)
  | _=>none
theorem ae1 (gl:aR) (d:Nat) (ne:Bool) (x:aq) (s:ae):Fm gl d ne x s=au gl s (.jU d ne x):=by
 simp only [Fm,au,eH,ae.dL]<;>rfl
noncomputable def Fo (gl:aR) (d:Nat) (x:aq) (sz:Nat) (s:ae):Option ae:=match dc gl s.env x with
  | some (.list _ b8 _)=>if b8=sz then s.ch d (.fb sz) else none
  | some (.aH b8)=>if b8=sz then s.ch d (.fb sz) else none
  | _=>none
theorem ae2 (gl:aR) (d:Nat) (x:aq) (sz:Nat) (s:ae):Fo gl d x sz s=au gl s (.nT d x sz):=by
 simp only [Fo,au,eH,ae.dL]<;>rfl
noncomputable def Fp (gl:aR) (d:Nat) (x:aq) (s:ae):Option ae:=match dc gl s.env x with
  | some (.bI id off n _)=>if 0<n then s.ch d (.ptr id off) else none
  | some (.aH _)=>s.ch d .dP
  | _=>none
theorem ae3 (gl:aR) (d:Nat) (x:aq) (s:ae):Fp gl d x s=au gl s (.mT d x):=by
 simp only [Fp,au,eH,ae.dL]<;>rfl
noncomputable def Fq (gl:aR) (d:Nat) (e:Nat) (x:aq) (n:aq) (s:ae):Option ae:=match dc gl s.env x,dc gl s.env n with
  | some (.ptr id 0),some (.int .i64 n)=>match s.heap[id]? with
   | some (.buf bH cs)=>if bH=e∧0<n∧n≤cs.length∧n≤M then (bytesOf (cs.take n.toNat)).bind fun b=>({ s with heap:=s.heap.set id .dead }).ch d (.str b) else none
   | _=>none
  | some .dP,some (.int .i64 n)=>if n=0 then s.ch d (.str []) else none
  | _,_=>none
theorem ae4 (gl:aR) (d:Nat) (e:Nat) (x:aq) (n:aq) (s:ae):Fq gl d e x n s=au gl s (.mU d e x n):=by
 simp only [Fq,au,eH,ae.dL]<;>rfl
noncomputable def Fs (gl:aR) (d:Nat) (_u1:Nat) (x:aq) (s:ae):Option ae:=(dc gl s.env x).bind fun v=>s.ch d v.aL
theorem ae5 (gl:aR) (d:Nat) (_u1:Nat) (x:aq) (s:ae):Fs gl d _u1 x s=au gl s (.mV d _u1 x):=by
 simp only [Fs,au,eH,ae.dL]<;>rfl
noncomputable def Ft (gl:aR) (d:Nat) (_u1:Nat) (x:aq) (y:aq) (s:ae):Option ae:=match dc gl s.env x,dc gl s.env y with
  | some (.str a),some (.str b)=>s.ch d (.int .i64 (da a b))
  | _,_=>none
theorem ae6 (gl:aR) (d:Nat) (_u1:Nat) (x:aq) (y:aq) (s:ae):Ft gl d _u1 x y s=au gl s (.lB d _u1 x y):=by
 simp only [Ft,au,eH,ae.dL]<;>rfl
end AM
/-! The lighter interpreter: its code, its calls; it is sound. -/
namespace AM
open Go
noncomputable def zU (gl:aR) (o:bR) (s:ae):Option ae:=match o with
 | .I d x=>Ex gl d x s
 | .bg d x=>Ey gl d x s
 | .hr d e sz=>Ez gl d e sz s
 | .pick d c a b=>EA gl d c a b s
 | .bin d m op x y=>EB gl d m op x y s
 | .kV d ne az x y=>EC gl d ne az x y s
 | .cB d x=>ED gl d x s
 | .neg d x=>EE gl d x s
 | .conv d k x=>EF gl d k x s
 | .ext d x i=>EG gl d x i s
 | .len d m x=>EH gl d m x s
 | .alloc d z=>EI gl d z s
 | .box d x=>EJ gl d x s
 | .g0 d z=>EK gl d z s
 | .iR d x=>EL gl d x s
 | .cz d x=>EM gl d x s
 | .build d z parts=>EN gl d z parts s
 | .lit d sz xs=>EO gl d sz xs s
 | .aC d x off=>EP gl d x off s
 | .bm d sz x i=>ER gl d sz x i s
 | .jR d x n sz i=>ES gl d x n sz i s
 | .ak d x n ag=>ET gl d x n ag s
 | .gO d x e sz=>EU gl d x e sz s
 | .st n x v=>EV gl n x v s
 | .fW x v=>EW gl x v s
 | .idx d x i=>EX gl d x i s
 | .hU d g2 x aX av=>EY gl d g2 x aX av s
 | .jw d x n sz aX av=>EZ gl d x n sz aX av s
 | .app d u x e sz=>E0 gl d u x e sz s
 | .bV d x=>E1 gl d x s
 | .iS d f eu=>E2 gl d f eu s
 | .lz d c e sz=>E3 gl d c e sz s
 | .mR d e z=>E4 gl d e z s
 | .mh d x e sz=>E5 gl d x e sz s
 | .jS d fz x y=>E6 gl d fz x y s
 | .jx d=>E7 gl d s
 | .look az d m k zero ok=>E8 gl az d m k zero ok s
 | .fX az d m k zero=>E9 gl az d m k zero s
 | .iT az m k v=>Fa gl az m k v s
 | .lA az m k v=>Fb gl az m k v s
 | .kW az d m k=>Fc gl az d m k s
 | .kX d m=>Fe gl d m s
 | .iU d it=>Ff gl d it s
 | .mi d e sz xs=>Fg gl d e sz xs s
 | .kr d e sz xs=>Fh gl d e sz xs s
 | .jT d e z x=>Fi gl d e z x s
 | .jy d e sz sb u x=>Fj gl d e sz sb u x s
 | .mj d u x e sz=>Fk gl d u x e sz s
 | .mS d u x e sz=>Fl gl d u x e sz s
 | .jU d ne x=>Fm gl d ne x s
 | .nT d x sz=>Fo gl d x sz s
 | .mT d x=>Fp gl d x s
 | .mU d e x n=>Fq gl d e x n s
 | .mV d _u1 x=>Fs gl d _u1 x s
 | .lB d _u1 x y=>Ft gl d _u1 x y s
 | .mW e z x=>au gl s (.mW e z x)
 | .iC b n x v=>au gl s (.iC b n x v)
 | o=>au gl s o
theorem ae7 (gl:aR) (s:ae):∀o,zU gl o s=au gl s o
 | .I d x=>aee gl d x s
 | .bg d x=>aef gl d x s
 | .hr d e sz=>aeg gl d e sz s
 | .pick d c a b=>aeh gl d c a b s
 | .bin d m op x y=>aei gl d m op x y s
 | .kV d ne az x y=>aej gl d ne az x y s
 | .cB d x=>aek gl d x s
 | .neg d x=>ael gl d x s
 | .conv d k x=>aem gl d k x s
 | .ext d x i=>aen gl d x i s
 | .len d m x=>aeo gl d m x s
 | .alloc d z=>aep gl d z s
 | .box d x=>aeq gl d x s
 | .g0 d z=>aer gl d z s
 | .iR d x=>aes gl d x s
 | .cz d x=>aet gl d x s
 | .build d z parts=>aeu gl d z parts s
 | .lit d sz xs=>aev gl d sz xs s
 | .aC d x off=>aew gl d x off s
 | .bm d sz x i=>aex gl d sz x i s
 | .jR d x n sz i=>aey gl d x n sz i s
 | .ak d x n ag=>aez gl d x n ag s
 | .gO d x e sz=>aeA gl d x e sz s
 | .st n x v=>aeB gl n x v s
 | .fW x v=>aeC gl x v s
 | .idx d x i=>aeD gl d x i s
 | .hU d g2 x aX av=>aeE gl d g2 x aX av s
 | .jw d x n sz aX av=>aeF gl d x n sz aX av s
 | .app d u x e sz=>aeG gl d u x e sz s
 | .bV d x=>aeH gl d x s
 | .iS d f eu=>aeI gl d f eu s
 | .lz d c e sz=>aeJ gl d c e sz s
 | .mR d e z=>aeK gl d e z s
 | .mh d x e sz=>aeL gl d x e sz s
 | .jS d fz x y=>aeM gl d fz x y s
 | .jx d=>aeN gl d s
 | .look az d m k zero ok=>aeO gl az d m k zero ok s
 | .fX az d m k zero=>aeP gl az d m k zero s
 | .iT az m k v=>aeQ gl az m k v s
 | .lA az m k v=>aeR gl az m k v s
 | .kW az d m k=>aeS gl az d m k s
 | .kX d m=>aeT gl d m s
 | .iU d it=>aeU gl d it s
 | .mi d e sz xs=>aeV gl d e sz xs s
 | .kr d e sz xs=>aeW gl d e sz xs s
 | .jT d e z x=>aeX gl d e z x s
 | .jy d e sz sb u x=>aeY gl d e sz sb u x s
 | .mj d u x e sz=>aeZ gl d u x e sz s
 | .mS d u x e sz=>ae0 gl d u x e sz s
 | .jU d ne x=>ae1 gl d ne x s
 | .nT d x sz=>ae2 gl d x sz s
 | .mT d x=>ae3 gl d x s
 | .mU d e x n=>ae4 gl d e x n s
 | .mV d _u1 x=>ae5 gl d _u1 x s
 | .lB d _u1 x y=>ae6 gl d _u1 x y s
 | .mW _ _ _=>rfl
 | .iC _ _ _ _=>rfl
 | .on _ _ | .bad _ | .aQ _ _ _ | .bF _ _ _ | .g1 _ _ _ | .hK _ _ _ _ | .eU _ _ _ | .hs _ _=>rfl
def uo (P:Program) (gl:aR) (fM:cv):Prop:=∀f xs r,fM f xs=some r→hQ P f=true∧xs.all AV.arg=true∧a4 P gl f xs r
noncomputable def sf (fM:cv) (call:hE):cv:=fun f xs=>match fM f xs with | some r=>some r | none=>tU call f xs
def b3:Option ae→Option (List ae)
 | some s=>some [s]
 | none=>none
theorem Fu (o:Option ae):b3 o=o.map fun s=>[s]:=by cases o<;>rfl
section
variable (gl:aR) (fM:cv) (call:hE)
noncomputable def zV (s:ae):bR→Option (List ae)
 | .aQ d f xs=>match qI gl s.env xs with
  | some vs=>match fM f (vs.map AV.aL) with
   | some r=>b3 (s.ef d r)
   | none=>if (vs.map AV.aL).all AV.arg then match tU call f (vs.map AV.aL) with
    | some r=>b3 (s.ef d r)
    | none=>none
    else none
  | none=>none
 | .bF d f xs=>kK gl call s (.bF d f xs)
 | .g1 d f xs=>kK gl call s (.g1 d f xs)
 | .eU d x xs=>kK gl call s (.eU d x xs)
 | .hK d f u xs=>kK gl call s (.hK d f u xs)
 | .hs d it=>kK gl call s (.hs d it)
 | .on m o=>if eg s.env (ej o)=m then b3 (zU gl o s) else none
 | o=>b3 (zU gl o s)
noncomputable def qJ:List ev→ae→Option (List ae)
 | [],s=>some [s]
 | it::r,s=>match h3 s.env it.g with
  | some true=>match zV gl fM call s it.o with
   | some [s']=>qJ r s'
   | some l=>lT (qJ r) l
   | none=>none
  | some false=>match fT it.o with
   | some d=>match s.ch d (.bw []) with | some s'=>qJ r s' | none=>none
   | none=>qJ r s
  | none=>none
noncomputable def gf (gS:Nat):ay→ae→Option (List (fO×ae))
 | .skip,s=>some [(.normal,s)]
 | .U b6 lP,s=>match qJ gl fM call b6 s with
  | some [s']=>@ae.rec (fun _=>Option (List (fO×ae))) (fun e h=>e.pD lP fun bH=>some [(.normal,⟨bH,h⟩)]) s'
  | some l=>some (l.map fun s=>(.normal,{ s with env:=s.env.close lP }))
  | none=>none
 | .seq a b,s=>match gf gS a s with
  | some [(.normal,s')]=>gf gS b s'
  | some l=>lT (fun p=>match p.1 with | .normal=>gf gS b p.2 | e=>some [(e,p.2)]) l
  | none=>none
 | .cond c a b,s=>match dc gl s.env c with
  | some (.bool t)=>if t then gf gS a s else gf gS b s
  | _=>none
 | .block id c,s=>(gf gS c s).map fun l=>l.map (zx id)
 | .loop c,s=>tV (gf gS c) gS s
 | .exit id,s=>some [(.exit id,s)]
 | .ret,s=>some [(.ret,s)]
 | .sQ t c,s=>match Env.get s.env t with
  | some (.v (.list _ _ _))=>gf gS c s
  | some (.v (.str _))=>gf gS c s
  | _=>none
 | .drop bk c,s=>gf gS c { s with env:=s.env.close bk }
 | .jV t e sz c,s=>match rH s t e sz with | some s=>gf gS c s | none=>none
 | .mX t off e sz c,s=>match yW s t off e sz with | some s=>gf gS c s | none=>none
 | .kill t c,s=>gf gS c (yX s t)
 | .bad,_=>none
end
section
variable (gl:aR) (fM:cv) (T:zy) (tW:hE) (gS:Nat)
noncomputable def nD:Nat→hE
 | 0=>fun _ _ _=>none
 | n+1=>fun f xs H=>match tW f xs H with
  | some l=>some l
  | none=>match T f with
   | some (c8,dT,k)=>if xs.length=k then (match (gf gl fM (nD n) gS c8 ⟨h8 0 xs,H⟩).bind (lT (wH dT)) with
    | some [p]=>some [p]
    | some l=>some (dedup l)
    | none=>none) else none
   | none=>none
end
section
variable {P:Program} {gl:aR} {fM:cv} {call:hE}
theorem ae8 {D D':cv} {s:ae} {K:ae→Prop} {o:bR} (h:∀d f xs,o≠.aQ d f xs) (bp:b0 P gl D s K o):b0 P gl D' s K o:=by
 cases o<;>first | exact bp | exact absurd rfl (h _ _ _)
theorem O0 (aw:uo P gl fM) (hF:jj P gl call) {s:ae} {o:bR} {l:List ae} (h:zV gl fM call s o=some l):b0 P gl (sf fM call) s (fun s'=>s'∈l) o:=by
 have af:∀bZ,(∀d f xs,bZ≠.aQ d f xs)→kK gl call s bZ=some l→b0 P gl (sf fM call) s (fun s'=>s'∈l) bZ:=fun bZ a1 h=>ae8 a1 (acC hF h)
 have nn:∀bZ,b3 (zU gl bZ s)=some l→(au gl s bZ).map (fun s=>[s])=some l:=fun bZ h=>by
  rw [Fu,ae7] at h;exact h
 cases o
 case aQ d f xs =>
  simp only [zV,uk] at h
  simp only [b0]
  split at h
  ·rename_i vs fQ
   rw [fQ]
   simp only
   split at h
   ·rename_i r aA
    obtain ⟨_,R,aa⟩:=aw _ _ _ aA
    refine ⟨R,?_⟩
    rw [Fu,Option.map_eq_some_iff] at h
    obtain ⟨s',al,rfl⟩:=h
    simp only [sf,aA]
    exact ⟨aa,by rw [al];simp⟩
   ·rename_i aA
    split at h
    ·rename_i aZ
     refine ⟨aZ,?_⟩
     split at h
     ·rename_i r j5
      rw [Fu,Option.map_eq_some_iff] at h
      obtain ⟨s',al,rfl⟩:=h
      simp only [sf,aA,j5]
      exact ⟨Ok hF aZ j5,by rw [al];simp⟩
     ·cases h
    ·cases h
  ·cases h
 case bF=>exact af _ (by simp) h
 case g1=>exact af _ (by simp) h
 case eU=>exact af _ (by simp) h
 case hK=>exact af _ (by simp) h
 case hs=>exact af _ (by simp) h
 case on m o =>
  simp only [zV] at h
  split at h
  ·rename_i hm
   refine af _ (by simp) ?_
   have:=nn _ h
   simp only [kK,au,hm,if_true]
   exact this
  ·cases h
 case bad d=>exact af _ (by simp) (nn (.bad d) h)
 all_goals exact af _ (by simp) (nn _ h)
theorem uq (aw:uo P gl fM) (hF:jj P gl call):∀{b6:List ev} {s:ae} {l:List ae},qJ gl fM call b6 s=some l→gI P gl (sf fM call) b6 s (fun s'=>s'∈l)
 | [],s,l,h=>by simp [qJ] at h;subst h;simp [gI]
 | it::r,s,l,h=>by
  simp only [qJ,ae.dL] at h
  simp only [gI]
  split at h
  ·rename_i aK
   rw [aK]
   simp only
   split at h
   ·rename_i s' aE
    refine tx (O0 aw hF aE) fun s1 fK=>?_
    simp at fK;subst fK
    exact uq aw hF h
   ·rename_i cx _ aE
    refine tx (O0 aw hF aE) fun s1 fK=>?_
    obtain ⟨x,R,aa⟩:=qC h s1 fK
    exact rN (fun s' eD=>aa s' eD) (uq aw hF R)
   ·cases h
  ·rename_i aK
   rw [aK]
   simp only
   split at h
   ·rename_i d dZ
    simp only [dZ]
    split at h
    ·rename_i s' aS
     simp only [aS]
     exact uq aw hF h
    ·cases h
   ·rename_i dZ
    simp only [dZ]
    exact uq aw hF h
  ·cases h
theorem ae9 (aw:uo P gl fM) (hF:jj P gl call) (gS:Nat):∀(c8:ay) {s:ae} {l:List (fO×ae)},gf gl fM call gS c8 s=some l→exec P gl (sf fM call) c8 s fun e s'=>(e,s')∈l:=by
 intro c8
 induction c8 with
 | skip=>intro s l h;simp [gf] at h;subst h;simp [exec]
 | exit i=>intro s l h;simp [gf] at h;subst h;simp [exec]
 | ret=>intro s l h;simp [gf] at h;subst h;simp [exec]
 | bad=>intro s l h;simp [gf] at h
 | U b6 lP =>
  intro s l h
  simp only [gf] at h
  simp only [exec]
  split at h
  ·rename_i s' aA
   obtain ⟨e,H⟩:=s'
   have cC:e.pD lP (fun bH=>some [(fO.normal,(⟨bH,H⟩:ae))])=some l:=h
   rw [Env.ui] at cC
   simp at cC;subst cC
   refine rN (fun s1 fK=>?_) (uq aw hF aA)
   simp at fK;subst fK
   simp
  ·rename_i cx _ aA
   simp at h;subst h
   exact rN (fun s' eD=>List.mem_map.2 ⟨s',eD,rfl⟩) (uq aw hF aA)
  ·cases h
 | seq x y tO qA =>
  intro s l h
  simp only [gf] at h
  simp only [exec]
  split at h
  ·rename_i s' ai
   refine hD x (tO ai) fun e s1 hm=>?_
   simp at hm
   obtain ⟨rfl,rfl⟩:=hm
   exact qA h
  ·rename_i cx _ ai
   refine hD x (tO ai) fun e s1 hm=>?_
   obtain ⟨z,R,aa⟩:=qC h _ hm
   cases e with
   | normal=>exact hD y (qA R) fun e s2 hN=>aa _ hN
   | exit i=>simp at R;subst R;exact aa _ (by simp)
   | ret=>simp at R;subst R;exact aa _ (by simp)
  ·cases h
 | cond c x y tO qA =>
  intro s l h
  simp only [gf,eH] at h
  simp only [exec]
  split at h
  ·rename_i t aF
   simp only [aF]
   cases t with
   | true=>exact tO h
   | false=>exact qA h
  ·cases h
 | block i x ih =>
  intro s l h
  simp only [gf,Option.map_eq_some_iff] at h
  obtain ⟨cx,R,rfl⟩:=h
  simp only [exec]
  refine hD x (ih R) fun e s1 hm=>?_
  have kB:zx i (e,s1)∈cx.map (zx i):=List.mem_map.2 ⟨_,hm,rfl⟩
  cases e with
  | normal=>exact kB
  | ret=>exact kB
  | exit j =>
   simp only [zx] at kB
   simp only
   by_cases a6:j=i
   ·rw [if_pos a6] at kB ⊢;exact kB
   ·rw [if_neg a6] at kB ⊢;exact kB
 | loop x ih =>
  intro s l h
  simp only [gf] at h
  have key:∀(n:Nat) (s:ae) (l:List (fO×ae)),tV (gf gl fM call gS x) n s=some l→exec P gl (sf fM call) (.loop x) s fun e s'=>(e,s')∈l:=by
   intro n
   induction n with
   | zero=>intro s l h;simp [tV] at h
   | succ n O1 =>
    intro s l h
    simp only [tV] at h
    refine Ob ?_
    split at h
    ·rename_i s' ai
     refine hD x (ih ai) fun e s1 hm=>?_
     simp at hm
     obtain ⟨rfl,rfl⟩:=hm
     exact O1 _ _ h
    ·rename_i cx _ ai
     refine hD x (ih ai) fun e s1 hm=>?_
     obtain ⟨z,R,aa⟩:=qC h _ hm
     cases e with
     | normal=>exact hD (.loop x) (O1 _ _ R) fun e s2 hN=>aa _ hN
     | exit i=>simp at R;subst R;exact aa _ (by simp)
     | ret=>simp at R;subst R;exact aa _ (by simp)
    ·cases h
  exact key gS s l h
 | sQ t x ih =>
  intro s l h
  simp only [gf] at h
  simp only [exec]
  split at h
  ·rename_i aF;simp only [aF];exact fun _=>ih h
  ·rename_i aF;simp only [aF];exact fun _=>ih h
  ·cases h
 | drop bk x ih=>intro s l h;exact ih h
 | jV t e sz x ih =>
  intro s l h
  simp only [gf] at h
  simp only [exec]
  split at h
  ·rename_i s' aS;simp only [aS];exact ih h
  ·cases h
 | mX t off e sz x ih =>
  intro s l h
  simp only [gf] at h
  simp only [exec]
  split at h
  ·rename_i s' aS;simp only [aS];exact ih h
  ·cases h
 | kill t x ih=>intro s l h;exact ih h
theorem Fv {T:zy} {tW:hE} {gS:Nat} (aw:uo P gl fM) (cL:Og P T) (aE:jj P gl tW):∀n,jj P gl (nD gl fM T tW gS n)
 | 0=>fun f xs H outs h=>by simp [nD] at h
 | n+1=>fun f xs H outs h=>by
  simp only [nD] at h
  split at h
  ·rename_i l aN
   simp at h;subst h
   exact aE _ _ _ _ aN
  ·split at h
   ·rename_i c8 dT k afa
    split at h
    ·rename_i ab
     subst ab
     have aP:=cL _ _ _ _ afa
     have key:∀l,(gf gl fM (nD gl fM T tW gS n) gS c8 ⟨h8 0 xs,H⟩).bind (lT (wH dT))=some l→ec P gl f xs H fun r H'=>(r,H')∈l:=by
      intro l aN
      obtain ⟨ends,R,aa⟩:=bind_some aN
      refine ec.intro aP (hD c8 (ae9 aw (Fv aw cL aE n) gS c8 R) fun e s hm=>?_)
      obtain ⟨z,al,aY⟩:=qC aa _ hm
      cases e with
      | exit i=>simp [wH] at al
      | normal =>
       simp only [wH,Option.map_eq_some_iff] at al
       obtain ⟨r,bn,rfl⟩:=al
       exact ⟨r,bn,aY _ (by simp)⟩
      | ret =>
       simp only [wH,Option.map_eq_some_iff] at al
       obtain ⟨r,bn,rfl⟩:=al
       exact ⟨r,bn,aY _ (by simp)⟩
     split at h
     ·rename_i p ao
      simp at h;subst h
      exact key _ ao
     ·rename_i l _ aN
      simp at h;subst h
      exact (key _ aN).mono fun r H hm=>Oe hm
     ·cases h
    ·cases h
   ·cases h
end
end AM
/-! Tables of code and of known calls; a closed call by evaluation. -/
namespace AM
open Go
inductive gv where
 | leaf (f:Nat) (c8:ay) (dT:List a2) (k:Nat)
 | node (m:Nat) (l r:gv)
noncomputable def gv.get (t:gv) (f:Nat):Option (ay×List a2×Nat) :=
 @gv.rec (fun _=>Option (ay×List a2×Nat)) (fun eR c8 dT k=>@Bool.rec (fun _=>Option (ay×List a2×Nat)) none (some (c8,dT,k)) (Nat.beq f eR))
  (fun m _ _ afb afc=>@Bool.rec (fun _=>Option (ay×List a2×Nat)) afc afb (Nat.blt f m)) t
def gv.sg (P:Program):gv→Prop
 | .leaf f c8 dT k=>a8 P f k c8 dT=true
 | .node _ l r=>l.sg P∧r.sg P
theorem gv.ok {P:Program}:∀{t:gv},t.sg P→Og P t.get
 | .leaf eR O2 O3 k',h=>fun f c8 dT k aK=>by
  have R:(gv.leaf eR O2 O3 k').get f=@Bool.rec (fun _=>Option (ay×List a2×Nat)) none (some (O2,O3,k')) (Nat.beq f eR):=rfl
  rw [R] at aK
  cases ah:Nat.beq f eR with
  | false=>rw [ah] at aK;cases aK
  | true =>
   rw [ah] at aK
   have e:=Nat.eq_of_beq_eq_true ah
   subst e
   simp only [Option.some.injEq,Prod.mk.injEq] at aK
   obtain ⟨rfl,rfl,rfl⟩:=aK
   exact h
 | .node m l r,h=>fun f c8 dT k aK=>by
  have R:(gv.node m l r).get f=@Bool.rec (fun _=>Option (ay×List a2×Nat)) (r.get f) (l.get f) (Nat.blt f m):=rfl
  rw [R] at aK
  cases ah:Nat.blt f m with
  | false=>rw [ah] at aK;exact gv.ok h.2 f c8 dT k aK
  | true=>rw [ah] at aK;exact gv.ok h.1 f c8 dT k aK
noncomputable def kb (l:List (Nat×List AV×AV)) (f:Nat) (xs:List AV):Option AV :=
 @List.rec (Nat×List AV×AV) (fun _=>Option AV) none (fun p _ ih=>@Bool.rec (fun _=>Option AV) ih (@Bool.rec (fun _=>Option AV) ih (some p.2.2) (AV.jM xs p.2.1)) (Nat.beq f p.1)) l
def qK (P:Program) (gl:aR):List (Nat×List AV×AV)→Prop
 | []=>True
 | p::r=>(hQ P p.1=true∧p.2.1.all AV.arg=true∧a4 P gl p.1 p.2.1 p.2.2)∧qK P gl r
theorem ur {P:Program} {gl:aR}:∀{l:List (Nat×List AV×AV)},qK P gl l→uo P gl (kb l)
 | [],_=>fun f xs r h=>by cases h
 | p::l,aN=>fun f xs r h=>by
  have R:kb (p::l) f xs=@Bool.rec (fun _=>Option AV) (kb l f xs) (@Bool.rec (fun _=>Option AV) (kb l f xs) (some p.2.2) (AV.jM xs p.2.1)) (Nat.beq f p.1):=rfl
  rw [R] at h
  cases ah:Nat.beq f p.1 with
  | false=>rw [ah] at h;exact ur aN.2 f xs r h
  | true =>
   rw [ah] at h
   simp only at h
   cases ai:AV.jM xs p.2.1 with
   | false=>rw [ai] at h;exact ur aN.2 f xs r h
   | true =>
    rw [ai] at h
    simp only [Option.some.injEq] at h
    have aB:=Nat.eq_of_beq_eq_true ah
    have aI:=AV.ns _ _ ai
    subst aB aI h
    exact aN.1
theorem ec.O4 {P:Program} {gl:aR} {f:Nat} {xs:List AV} {r:AV} {H:List aM} (af:hQ P f=true) (aZ:xs.all AV.arg=true) (aw:a4 P gl f xs r):ec P gl f xs H fun cQ H'=>cQ=r∧H'=H:=by
 refine ⟨af,fun g w vs h ax _=>(aw g.γ w vs h.dY h.e4 (Dp ax aZ)).mono fun e w' rK=>?_⟩
 obtain ⟨v,dq,rfl,R,aa,al,fS,aY,bn,cw⟩:=rK
 have dx:∀b,v.ownBlock=some b→(∃e sz xs,r=.list (some e) sz xs)→b<w'.heap.size∧w.heap.size≤b:=by
  intro b ah ⟨e,sz,xs,aA⟩
  obtain ⟨i,z,vs,aG,aJ,bo,cd,dV,fY,jY,pf,pg⟩:=cw e sz xs aA
  have q:=(pg b ah).1
  refine ⟨(pf.lt b ah).2,?_⟩
  simp only [oa] at q
  by_cases bz:b<w.heap.size
  ·simp [bz] at q
  ·omega
 by_cases aA:∃e sz xs,r=.list (some e) sz xs
 ·let bX:a5:=⟨dq,fun b=>if b<w.heap.size then g.bd b else if v.ownBlock=some b then .var 0 else .none,g.b4⟩
  have hle:GhLe g bX:=⟨R,fun _ _ h=>h⟩
  have j3:∀b,g.bd b≠.none→bX.bd b=g.bd b∧w'.heap[b]?=w.heap[b]?∧∀o,bX.γ b o=g.γ b o:=fun b ah=>by
   have bz:=h.own b ah
   exact ⟨by simp [bX,bz],(al b bz).1,(al b bz).2⟩
  have gb:Rel P gl 0 bX (jI H) ob w':=h.step .none (hX.none _) hle (fun b ah=>j3 b ah.1) aY (fun b ah=>by
   by_cases bz:b<w.heap.size
   ·omega
   ·simp [bX,bz] at ah;exact (dx b ah aA).1) h.er
  refine ⟨v,r,H,bX,rfl,⟨rfl,rfl⟩,⟨hle,fun b ah=>?_,aa,fS.1,fS.2⟩,gb,bn.mono (⟨fun _ _ _ h=>h,fun _ _ h=>by cases h⟩:GhLe (oa dq w.heap.size) bX),?_⟩
  ·obtain ⟨an,ar,aO⟩:=j3 b (by rw [ah];simp);exact ⟨an.trans ah,ar,aO⟩
  ·intro e sz xs ai
   obtain ⟨i,z,vs,aG,aJ,bo,cd,dV,fY,jY,pf,pg⟩:=cw e sz xs ai
   refine ⟨i,z,vs,aG,aJ,bo,cd,dV,fY,jY,pf,fun b ah=>?_⟩
   have q:=dx b ah aA
   exact ⟨by simp [bX,show ¬b<w.heap.size by omega,ah],(pg b ah).2⟩
 ·let bQ:a5:=⟨dq,fun b=>if b<w.heap.size then g.bd b else .none,g.b4⟩
  have la:GhLe g bQ:=⟨R,fun _ _ h=>h⟩
  have v8:∀b,g.bd b≠.none→bQ.bd b=g.bd b∧w'.heap[b]?=w.heap[b]?∧∀o,bQ.γ b o=g.γ b o:=fun b ah=>by
   have bz:=h.own b ah
   exact ⟨by simp [bQ,bz],(al b bz).1,(al b bz).2⟩
  have gb:Rel P gl 0 bQ (jI H) ob w':=h.step .none (hX.none _) la (fun b ah=>v8 b ah.1) aY (fun b ah=>by
   by_cases bz:b<w.heap.size
   ·omega
   ·simp [bQ,bz] at ah) h.er
  refine ⟨v,r,H,bQ,rfl,⟨rfl,rfl⟩,⟨la,fun b ah=>?_,aa,fS.1,fS.2⟩,gb,bn.mono (⟨fun _ _ _ h=>h,fun _ _ h=>by cases h⟩:GhLe (oa dq w.heap.size) bQ),.jX fun e sz xs ai=>aA ⟨e,sz,xs,ai⟩⟩
  obtain ⟨an,ar,aO⟩:=v8 b (by rw [ah];simp);exact ⟨an.trans ah,ar,aO⟩
noncomputable def qL (fM:cv) (base:hE):hE:=fun f xs H=>match fM f xs with | some r=>some [(r,H)] | none=>base f xs H
theorem O5 {P:Program} {gl:aR} {fM:cv} {base:hE} (aw:uo P gl fM) (ah:jj P gl base):jj P gl (qL fM base):=fun f xs H outs h=>by
 simp only [qL] at h
 split at h
 ·rename_i r aA
  simp only [Option.some.injEq] at h;subst h
  obtain ⟨R,aa,al⟩:=aw _ _ _ aA
  exact (ec.O4 R aa al).mono fun cQ H' ⟨aB,aI⟩=>by subst aB aI;simp
 ·exact ah _ _ _ _ h
structure c0 where
 f:Nat
 xs:List AV
 H:List aM
 outs:List iN
noncomputable def ox (l:List c0) (base:hE):hE:=fun f xs H =>
 @List.rec c0 (fun _=>Option (List iN)) (base f xs H) (fun p _ ih=>@Bool.rec (fun _=>Option (List iN)) ih (if AV.jM xs p.xs&&r3 H p.H then some p.outs else ih) (Nat.beq f p.f)) l
def qM (P:Program) (gl:aR):List c0→Prop
 | []=>True
 | p::r=>(ec P gl p.f p.xs p.H fun r H'=>(r,H')∈p.outs)∧qM P gl r
theorem zW {P:Program} {gl:aR} {base:hE} (ah:jj P gl base):∀{l:List c0},qM P gl l→jj P gl (ox l base)
 | [],_=>ah
 | p::l,aN=>fun f xs H outs h=>by
  have R:ox (p::l) base f xs H=@Bool.rec (fun _=>Option (List iN)) (ox l base f xs H) (if AV.jM xs p.xs&&r3 H p.H then some p.outs else ox l base f xs H) (Nat.beq f p.f):=rfl
  rw [R] at h
  cases aP:Nat.beq f p.f with
  | false=>rw [aP] at h;exact zW ah aN.2 f xs H outs h
  | true =>
   rw [aP] at h
   simp only at h
   split at h
   ·rename_i ai
    simp only [Bool.and_eq_true] at ai
    simp only [Option.some.injEq] at h
    have aB:=Nat.eq_of_beq_eq_true aP
    have aI:=AV.ns _ _ ai.1
    have dS:=DY _ _ ai.2
    subst aB aI dS h
    exact aN.1
   ·exact zW ah aN.2 f xs H outs h
def zX (o:Option (List iN)) (r:AV):Bool:=match o with
 | some ((cQ,_)::l)=>cQ.beq r&&r.res&&l.all fun p=>p.1.beq r
 | _=>false
theorem O6 {P:Program} {gl:aR} {l:List (Nat×List AV×AV)} {m:List c0} {t:gv} {base:hE} {f:Nat} {xs:List AV} {r:AV} (aN:qK P gl l) (hm:qM P gl m) (aF:t.sg P) (aE:jj P gl base)
  (h:((t.get f).isSome&&xs.all AV.arg&&zX (nD gl (kb l) t.get (qL (kb l) (ox m base)) 100000 1000 f xs []) r)=true):hQ P f=true∧xs.all AV.arg=true∧a4 P gl f xs r:=by
 simp only [Bool.and_eq_true] at h
 obtain ⟨⟨aP,aZ⟩,h⟩:=h
 obtain ⟨⟨c8,dT,k⟩,aP⟩:=Option.isSome_iff_exists.1 aP
 refine ⟨(zt (gv.ok aF _ _ _ _ aP)).1,aZ,?_⟩
 unfold zX at h
 split at h
 ·rename_i cQ H rest af
  simp only [Bool.and_eq_true] at h
  refine a4.Oh ((Fv (ur aN) (gv.ok aF) (O5 (ur aN) (zW aE hm)) 1000 _ _ _ _ af).mono fun bu r0 hm=>?_) aZ h.1.2
  rcases List.mem_cons.1 hm with hm | hm
  ·simp only [Prod.mk.injEq] at hm
   rw [hm.1]
   exact AV.beq_eq _ _ h.1.1
  ·exact AV.beq_eq _ _ (List.all_eq_true.1 h.2 _ hm)
 ·cases h
def qN:List iN→List iN→Bool
 | [],[]=>true
 | x::r,y::cQ=>zv x y&&qN r cQ
 | _,_=>false
theorem O7:∀{xs ys:List iN},qN xs ys=true→xs=ys
 | [],[],_=>rfl
 | [],_::_,h=>by simp [qN] at h
 | _::_,[],h=>by simp [qN] at h
 | x::xs,y::ys,h=>by
  simp only [qN,Bool.and_eq_true] at h
  rw [Od h.1,O7 h.2]
theorem O8 {P:Program} {gl:aR} {l:List (Nat×List AV×AV)} {m:List c0} {t:gv} {base:hE} {e:c0} (aN:qK P gl l) (hm:qM P gl m) (aF:t.sg P) (aE:jj P gl base)
  (h:(match nD gl (kb l) t.get (qL (kb l) (ox m base)) 100000 1000 e.f e.xs e.H with | some outs=>qN outs e.outs | none=>false)=true):ec P gl e.f e.xs e.H fun r H'=>(r,H')∈e.outs:=by
 split at h
 ·rename_i outs af
  rw [←O7 h]
  exact Fv (ur aN) (gv.ok aF) (O5 (ur aN) (zW aE hm)) 1000 _ _ _ _ af
 ·cases h
end AM
/-! slices.AppendSeq to nil, over a map's keys, as known calls. Conditions: the map's values are bools; its keys are strings or structs of three scalars. -/
namespace AM
open Go Go.RowKit
section
variable {P:Program} {gl:aR} {N:Nat} {g g':a5} {s s':ae} {a:Act} {w w':World} {S E sz:Nat} {i:TypeInfo} {z:Value}
def uu:AV→Bool | .str _ | .int _ _ | .bool _=>true | _=>false
theorem afd {c:AV} {v:Value} (af:uu c=true) (h:aU g c v) (g':a5):aU g' c v:=by
 cases c<;>simp [uu] at af
 ·have:=h.kt;subst this;exact .pure _ _ (.bool _)
 ·have:=h.hg;subst this;exact .pure _ _ (.int _ _)
 ·obtain ⟨rfl,aN⟩:=h.jC;exact .pure _ _ (.str _ aN)
theorem O9:∀{cs:List AV} {ws:List Value},cs.all uu=true→bW g cs ws→bW g' cs ws
 | [],_,_,h=>by cases h;exact .nil
 | c::cs,_,af,.cons _ _ v ws R aa=>by
  rw [List.all_cons,Bool.and_eq_true] at af
  exact .cons _ _ _ _ (afd af.1 R g') (O9 af.2 aa)
def kO (sz:Nat):AV→Bool
 | .str _=>sz==1
 | .agg cs=>sz==3&&cs.length==3&&cs.all uu
 | _=>false
theorem afe {sz:Nat} {k:AV} {v:Value} (ab:kO sz k=true) (h:aU g k v):pA sz v:=by
 cases k<;>simp only [kO,Bool.false_eq_true,Bool.and_eq_true,beq_iff_eq] at ab
 ·subst ab
  obtain ⟨rfl,aN⟩:=h.jC
  exact ⟨rfl,by simp [Value.cells,Value.oneCell'],fun _=>rfl,fun h=>absurd rfl h⟩
 ·obtain ⟨⟨rfl,al⟩,af⟩:=ab
  obtain ⟨ws,rfl,R,aa⟩:=h.jD
  have aN:=R.get.1
  refine ⟨by simp [Value.cells];omega,by simpa [Value.cells] using aa,(fun h=>by omega),fun _=>by simp [Value.cells]⟩
theorem aff {sz:Nat} {k:AV} {v:Value} (ab:kO sz k=true) (h:aU g k v):bW g' k.cells v.cells.toList∧∀c∈k.cells,cc c:=by
 cases k<;>simp only [kO,Bool.false_eq_true,Bool.and_eq_true,beq_iff_eq] at ab
 ·obtain ⟨rfl,aN⟩:=h.jC
  exact ⟨.cons _ _ _ _ (.pure _ _ (.str _ aN)) .nil,by simp [AV.cells];exact vn _⟩
 ·obtain ⟨⟨rfl,al⟩,af⟩:=ab
  obtain ⟨ws,rfl,R,aa⟩:=h.jD
  refine ⟨by simpa [Value.cells,AV.cells] using O9 af R,fun c hz=>?_⟩
  have:=List.all_eq_true.1 af c hz
  cases c<;>simp [uu] at this<;>exact fun _ _ _ h=>by simp at h
theorem Pa {sz:Nat}:∀{az:List AV} {vs:List Value},(∀k∈az,kO sz k=true)→bW g az vs→bW g' (az.map AV.cells).flatten (flat vs)∧∀c∈(az.map AV.cells).flatten,cc c
 | [],_,_,h=>by cases h;exact ⟨.nil,by simp⟩
 | k::az,_,ab,.cons _ _ v vs R aa=>by
  obtain ⟨aG,aJ⟩:=aff (g':=g') (ab k (by simp)) R
  obtain ⟨an,ar⟩:=Pa (fun k fp=>ab k (by simp [fp])) aa
  refine ⟨by simpa [flat] using aG.append an,fun c af=>?_⟩
  simp only [List.map_cons,List.flatten_cons,List.mem_append] at af
  exact af.elim (aJ c) (ar c)
theorem afg (cL:ug P S E sz i z) (cq:hf P E sz=true) {aC fk:Nat} {fn jk:Func} {c fg:Code} {pre:List bR} {fU:bR} (pq:P.funcs[aC]?=some fn) (jL:fn.body=some c) (wY:fn.results=#[.tmp 4]) (pC:wW fn.ntmps S E sz c=true)
  (wZ:P.funcs[fk]?=some jk) (n7:jk.body=some fg) (w1:jk.results=#[]) (w2:r4 P jk.ntmps pre fU fg=true) (lQ:hQ P fk=true) (Fw:hQ P aC=true)
  {H:List aM} {id a7 m:Nat} {es:List (AV×AV)} (R:H[id]?=some (.cells [.map a7])) (aa:H[a7]?=some (.map m es)) (ax:∀e∈es,dA e.2=true) (ab:∀e∈es,lU pre fU e.1) (qo:∀e∈es,kO sz e.1=true) (c7:es.length≤M) :
  ec P gl aC [.aH sz,.fn fk [.ptr id 0]] H fun r H'=>(es=[]∧r=.aH sz∧H'=H)∨(es≠[]∧∃az:List AV,az.Perm (es.map (·.1))∧r=.bI H.length 0 az.length sz∧H'=H++[.buf E (az.map AV.cells).flatten,.dead]):=by
 refine ⟨Fw,fun g w vs h fQ _=>?_⟩
 obtain ⟨b,aG,arr,ty,aJ,bo,cd,dV,fY⟩:=h.heap id _ R
 obtain ⟨u,an,ar,aO,_⟩:=fY 0 _ rfl
 obtain ⟨b1,bD,rfl⟩:=aO.oX
 obtain ⟨pd,bf,hm⟩:=h.heap a7 _ aa
 rw [bD] at bf;simp at bf;subst bf
 have tX:vs=[.slice none 0 0,.func (.func fk) #[] #[ptrTo b 0]]:=by
  cases fQ with
  | cons _ _ v1 us al aY=>cases aY with
   | cons _ _ v2 DZ bn cw =>
    cases cw
    have:=al.m5;subst this
    cases bn with
    | pure _ _ h=>cases h
    | fn _ _ ws dr=>cases dr with
     | cons _ _ hn acZ hL hM =>
      cases hM
      obtain ⟨bE,t1,rfl⟩:=hL.m2
      rw [aG] at t1;simp at t1;subst t1
      rfl
 subst tX
 have ah:b<w.heap.size:=(Array.getElem?_eq_some_iff.1 aJ).1
 have mq:b1<w.heap.size:=by obtain ⟨arr',t1,_⟩:=hm;exact (Array.getElem?_eq_some_iff.1 t1).1
 have g3:w.cell? ⟨b,0,none⟩=some (.map (some b1)):=by simp [World.cell?,aJ,an]
 refine (ad2 cL pq jL wY pC wZ n7 w1 w2 lQ ax ab (fun e he v ax=>afe (qo e he) ax) hm mq g3 ah c7).mono ?_
 rintro e W ⟨v,xs,az,rfl,bN,cb,ds,dz,ez,jF⟩
 have fS:(W.os,W.tape)=(w.os,w.tape)∧W.output=w.output:=⟨by rw [dz.os,dz.tape],dz.output⟩
 have hlen:xs.length=az.length:=cb.get.1
 have afh:az.length=es.length:=by simpa using bN.length_eq
 by_cases Fx:es=[]
 ·subst Fx
  have lY:xs=[]:=List.eq_nil_of_length_eq_zero (by rw [hlen,afh];rfl)
  have afi:=jF lY
  subst afi
  have hle:GhLe g g:=⟨fun _ _ _ h=>h,fun _ _ h=>h⟩
  have gb:Rel P gl 0 g (jI H) ob W:=h.step .none (hX.none _) hle (fun b ah=>⟨rfl,dz.block b (h.own b ah.1),fun _=>rfl⟩) (fun b off v ax=>by
   have af:=h.dY b off v ax
   have bz:b<w.heap.size:=s6 af
   unfold World.cell? at af ⊢
   rw [dz.block b bz];exact af) (fun b ah=>Nat.lt_of_lt_of_le (h.own b ah) dz.size) h.er
  exact ⟨_,.aH sz,H,g,rfl,.inl ⟨rfl,rfl,rfl⟩,⟨hle,fun b ah=>⟨ah,dz.block b (h.own b (by rw [ah];simp)),fun _=>rfl⟩,dz.size,fS.1,fS.2⟩,gb,.pure _ _ (.aH sz),.jX (by simp)⟩
 ·have jc:0<xs.length:=by have:=List.length_pos_iff.2 Fx;omega
  rcases ez.2 with ⟨_,a0⟩ | ⟨nb,cap,cur,rfl,t1,t2,t3,t4,t5,t6⟩
  ·omega
  have ni:∀k∈az,kO sz k=true:=fun k fp=>by
   obtain ⟨e,he,rfl⟩:=List.mem_map.1 (bN.mem_iff.1 fp)
   exact qo e he
  obtain ⟨s1,s2⟩:=Pa (g':=g) ni cb
  have iF:∀u∈flat xs,u.oneCell'=true:=fun u hu=>by
   obtain ⟨l,aN,afj⟩:=List.mem_flatten.1 hu
   obtain ⟨x,ai,rfl⟩:=List.mem_map.1 aN
   exact (ds x ai).2.1 u afj
  obtain ⟨g',cr,cX,eX,kM⟩:=h.yS (w':=W) (nb:=nb) (e:=E) (sz:=sz) (us:=flat xs) (c:=cap) (cur:=cur) (.inl (by
   cases jb:g.bd nb with
   | none=>rfl
   | _=>have:=h.own nb (by rw [jb];simp);omega)) (fun off=>by
   cases fI:g.γ nb off with
   | none=>rfl
   | some v=>have:=s6 (h.dY _ _ _ fI);omega) (fun k _ ab=>dz.block k ab) dz.size fS t2 t5 (fun j u a6=>by
   rw [←t6,List.getElem?_take] at a6
   split at a6
   ·simpa using a6
   ·cases a6) s1 iF s2 cq t4
  refine ⟨_,.bI H.length 0 az.length sz,H++[.buf E (az.map AV.cells).flatten,.dead],g',rfl,.inr ⟨Fx,az,bN,rfl,rfl⟩,cr,cX,?_,.jX (by simp)⟩
  rw [hlen]
  exact .bI _ _ _ _ _ _ _ eX kM (by simp) (by omega)
def w7:List AV→List (List AV)
 | []=>[[]]
 | x::xs=>(w7 xs).flatMap fun p=>(List.range (p.length+1)).map fun i=>p.take i++[x]++p.drop i
theorem Pb:∀{l az:List AV},az.Perm l→az∈w7 l
 | [],az,h=>by have:=List.Perm.eq_nil h;subst this;simp [w7]
 | x::xs,az,h=>by
  have ai:x∈az:=h.mem_iff.2 (by simp)
  obtain ⟨cT,cn,rfl⟩:=List.append_of_mem ai
  have cC:(cT++cn).Perm xs:=by
   have al:(x::(cT++cn)).Perm (x::xs):=(List.perm_middle.symm).trans h
   exact al.cons_inv
  have ih:=Pb cC
  simp only [w7,List.mem_flatMap,List.mem_map,List.mem_range]
  exact ⟨cT++cn,ih,cT.length,by simp;omega,by simp⟩
def w8 (aC fk sz E:Nat) (base:hE):hE:=fun f xs H =>
 bif Nat.beq f aC then (match xs with
  | [.aH b8,.fn eR [.ptr id 0]]=>(match H[id]? with
   | some (.cells [.map a7])=>(match H[a7]? with
    | some (.map _ es)=>if Nat.beq b8 sz&&Nat.beq eR fk&&es.all (fun e=>dA e.2)&&es.all (fun e=>kO sz e.1)&&decide (es.length≤1000) then
      (match es with
       | []=>some [(.aH sz,H)]
       | es=>some ((w7 (es.map (·.1))).map fun az=>(.bI H.length 0 az.length sz,H++[.buf E (az.map AV.cells).flatten,.dead]))) else none
    | _=>none)
   | _=>none)
  | _=>none)
 else base f xs H
theorem Pc {sz:Nat} {z:List AV} {k:AV} (bx:z.length=3) (ab:kO sz k=true):(sz=1∧lU [.I 3 (.t 9)] (.I 11 (.t 3)) k)∨(sz=3∧lU [.alloc 3 z,.st 3 (.t 3) (.t 9)] (.ak 11 (.t 3) 3 true) k):=by
 cases k<;>simp only [kO,Bool.false_eq_true,Bool.and_eq_true,beq_iff_eq] at ab
 ·exact .inl ⟨ab,acH _⟩
 ·obtain ⟨⟨R,al⟩,af⟩:=ab
  exact .inr ⟨R,acI z _ bx al fun c hz=>by have:=List.all_eq_true.1 af c hz;cases c<;>simp [uu] at this ⊢⟩
theorem afk {base:hE} (pF:jj P gl base) (cL:ug P S E sz i z) (cq:hf P E sz=true) {aC fk:Nat} {fn jk:Func} {c fg:Code} {pre:List bR} {fU:bR} (pq:P.funcs[aC]?=some fn) (jL:fn.body=some c) (wY:fn.results=#[.tmp 4]) (pC:wW fn.ntmps S E sz c=true)
  (wZ:P.funcs[fk]?=some jk) (n7:jk.body=some fg) (w1:jk.results=#[]) (w2:r4 P jk.ntmps pre fU fg=true) (lQ:hQ P fk=true) (Fw:hQ P aC=true)
  (Fy:∀k,kO sz k=true→lU pre fU k):jj P gl (w8 aC fk sz E base):=by
 intro f xs H outs h
 unfold w8 at h
 cases aP:Nat.beq f aC with
 | false=>rw [aP] at h;exact pF _ _ _ _ h
 | true =>
  rw [aP] at h
  have afl:=Nat.eq_of_beq_eq_true aP
  subst afl
  simp only [cond_true] at h
  split at h
  ·rename_i b8 eR id
   split at h
   ·rename_i a7 bG
    split at h
    ·rename_i m es mZ
     split at h
     ·rename_i af
      simp only [Bool.and_eq_true,decide_eq_true_eq] at af
      obtain ⟨⟨⟨⟨cf,cY⟩,eS⟩,fJ⟩,iM⟩:=af
      have cf:=Nat.eq_of_beq_eq_true cf
      have cY:=Nat.eq_of_beq_eq_true cY
      subst cf cY
      have qo:∀e∈es,kO b8 e.1=true:=fun e he=>List.all_eq_true.1 fJ e he
      have key:=afg (gl:=gl) cL cq pq jL wY pC wZ n7 w1 w2 lQ Fw bG mZ (fun e he=>List.all_eq_true.1 eS e he) (fun e he=>Fy _ (qo e he)) qo (Nat.le_trans iM (by decide))
      refine key.mono fun r H' aA=>?_
      cases es with
      | nil =>
       simp only [Option.some.injEq] at h;subst h
       rcases aA with ⟨_,rfl,rfl⟩ | ⟨ck,_⟩
       ·simp
       ·exact absurd rfl ck
      | cons bB MK =>
       simp only [Option.some.injEq] at h;subst h
       rcases aA with ⟨he,_⟩ | ⟨_,az,ao,rfl,rfl⟩
       ·cases he
       ·exact List.mem_map.2 ⟨az,Pb ao,rfl⟩
     ·cases h
    ·cases h
   ·cases h
  ·cases h
def Fz (P:Program) (S E sz:Nat):Bool :=
 (match P.underlying S with | some (.slice e)=>e==E | _=>false)&&(match P.info? S with | some j=>j.size==1 | none=>false) &&
 (match P.info? E with | some i=>i.size==sz&&decide (0<sz)&&decide (sz≤2 ^ 24)&&decide (i.bytes≤128)&&(match i.zero with | some z=>z.cells.size==sz | none=>false) | none=>false) &&
 (sz==1||(match P.underlying E with | some (.struct _)=>true | _=>false))
theorem afm (h:Fz P S E sz=true):∃i z,ug P S E sz i z:=by
 simp only [Fz,Bool.and_eq_true] at h
 obtain ⟨⟨⟨R,aa⟩,al⟩,aY⟩:=h
 split at R
 case h_2=>cases R
 rename_i e lk
 split at aa
 case h_2=>cases aa
 rename_i j a6
 split at al
 case h_2=>cases al
 rename_i i av
 simp only [Bool.and_eq_true,beq_iff_eq,decide_eq_true_eq] at R aa al
 subst R
 obtain ⟨⟨⟨⟨an,ar⟩,aO⟩,bD⟩,ew⟩:=al
 split at ew
 case h_2=>cases ew
 rename_i z bx
 refine ⟨i,z,lk,⟨j,a6,aa⟩,av,an,ar,aO,bx,by simpa using ew,bD,fun ck=>?_⟩
 simp only [Bool.or_eq_true,beq_iff_eq] at aY
 rcases aY with aY | aY
 ·exact absurd aY ck
 ·split at aY
  ·rename_i cu El;exact ⟨cu,El⟩
  ·cases aY
def zY (P:Program) (aC fk S E sz:Nat) (pre:List bR) (fU:bR):Bool :=
 Fz P S E sz&&hf P E sz&&hQ P fk&&hQ P aC &&
 (match P.funcs[aC]? with
  | some fn=>(match fn.body with | some c=>wW fn.ntmps S E sz c | none=>false)&&(match fn.results.toList with | [.tmp t]=>t==4 | _=>false)
  | none=>false) &&
 (match P.funcs[fk]? with
  | some fn=>(match fn.body with | some c=>r4 P fn.ntmps pre fU c | none=>false)&&fn.results.toList.isEmpty
  | none=>false)
theorem Pd {base:hE} (pF:jj P gl base) {aC fk:Nat} {pre:List bR} {fU:bR} (h:zY P aC fk S E sz pre fU=true) (Fy:∀k,kO sz k=true→lU pre fU k):jj P gl (w8 aC fk sz E base):=by
 simp only [zY,Bool.and_eq_true] at h
 obtain ⟨⟨⟨⟨⟨R,aa⟩,al⟩,aY⟩,bn⟩,cw⟩:=h
 obtain ⟨i,z,cL⟩:=afm R
 split at bn
 case h_2=>cases bn
 rename_i fn FA
 split at cw
 case h_2=>cases cw
 rename_i jk afn
 simp only [Bool.and_eq_true] at bn cw
 obtain ⟨bn,zZ⟩:=bn
 obtain ⟨cw,oT⟩:=cw
 split at bn
 case h_2=>cases bn
 rename_i c af
 split at cw
 case h_2=>cases cw
 rename_i fg hz
 split at zZ
 case h_2=>cases zZ
 rename_i t aF
 simp only [beq_iff_eq] at zZ
 subst zZ
 exact afk pF cL aa FA af (by apply Array.ext';simpa using aF) bn afn hz (by apply Array.ext';simpa using oT) cw al aY Fy
theorem afo (k:AV) (h:kO 1 k=true):lU [.I 3 (.t 9)] (.I 11 (.t 3)) k:=by
 rcases Pc (z:=[.dP,.dP,.dP]) rfl h with ⟨_,h⟩ | ⟨h,_⟩
 ·exact h
 ·cases h
theorem afp {z:List AV} (bx:z.length=3) (k:AV) (h:kO 3 k=true):lU [.alloc 3 z,.st 3 (.t 3) (.t 9)] (.ak 11 (.t 3) 3 true) k:=by
 rcases Pc bx h with ⟨h,_⟩ | ⟨_,h⟩
 ·cases h
 ·exact h
end
end AM
