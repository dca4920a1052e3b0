/- An abstract machine for the program of the seat, and what of the given program it does, part 4 of 17. Conditions: none. -/
import Derived.Test.YtjpfdkecffnlbaaGreatDoorAm2
import Derived.Laws.CopyRow
set_option linter.unusedVariables false
set_option linter.unusedSimpArgs false
/-! The simulation of new boxes and objects, and of stores. -/
namespace AM
open Go
section
variable {P:Program} {gl:aR} {N:Nat} {g g':a5} {s s':ae} {a:Act} {w w':World} {o:Oper}
theorem s6 {b off:Nat} {v:Value} (h:w.cell? ⟨b,off,none⟩=some v):b<w.heap.size:=by
 unfold World.cell? at h
 cases ah:w.heap[b]? with
 | none=>simp [ah] at h
 | some x=>exact (Array.getElem?_eq_some_iff.1 ah).1
theorem LS {b off:Nat} {v:Value} (x:Obj) (h:w.cell? ⟨b,off,none⟩=some v):(w.alloc x).cell? ⟨b,off,none⟩=some v:=by
 have aN:=s6 h
 unfold World.cell? at h ⊢
 rw [heap_alloc_old w x (h:=aN)];exact h
theorem jE (w:World) (x:Obj):(w.alloc x).heap.size=w.heap.size+1:=by show (w.heap.push x).size=_;simp
def a5.gE (g:a5) (b:Nat) (ow:dh):a5:={ g with bd:=fun k=>if k=b then ow else g.bd k }
theorem Rel.n2 (h:Rel P gl N g s a w) (off:Nat):g.γ w.heap.size off=none:=by
 cases bc:g.γ w.heap.size off with
 | none=>rfl
 | some v=>have:=s6 (h.dY _ _ _ bc);omega
theorem Rel.s7 (h:Rel P gl N g s a w):g.bd w.heap.size=.none:=by
 cases bc:g.bd w.heap.size<;>first | rfl | (have:=h.own w.heap.size (by rw [bc];simp);omega)
theorem Rel.alloc (h:Rel P gl N g s a w) (x:Obj) (ow:dh) :
  dj g w (g.gE w.heap.size ow) (w.alloc x)∧Rel P gl N (g.gE w.heap.size ow) s a (w.alloc x):=by
 have hle:GhLe g (g.gE w.heap.size ow):=⟨fun _ _ _ h=>h,fun _ _ h=>h⟩
 have ck:∀b,g.bd b≠.none→b≠w.heap.size:=fun b ah e=>by subst e;exact ah h.s7
 have j3:∀b,g.bd b≠.none→(g.gE w.heap.size ow).bd b=g.bd b∧(w.alloc x).heap[b]?=w.heap[b]?∧∀o,(g.gE w.heap.size ow).γ b o=g.γ b o:=fun b ah =>
  ⟨by simp [a5.gE,ck b ah],heap_alloc_old w x (h:=h.own b ah),fun _=>rfl⟩
 refine ⟨⟨hle,fun b ah=>?_,by rw [jE];omega,rfl,rfl⟩,h.step .none (hX.none s) hle (fun b ah=>j3 b ah.1) (fun b off v ax=>LS x (h.dY b off v ax)) (fun b ah=>?_) h.er⟩
 ·obtain ⟨R,aa,al⟩:=j3 b (by rw [ah];simp)
  exact ⟨R.trans ah,aa,al⟩
 ·by_cases e:b=w.heap.size
  ·rw [jE];omega
  ·simp [a5.gE,e] at ah;have:=h.own b ah;rw [jE];omega
theorem gB.new {ow:dh} {oc:Nat→dh} {cs:List AV} {ws:List Value} {ty:TypeId} (aK:∀off,g.γ w.heap.size off=none) (af:bW g cs ws) (R:∀v∈ws,v.oneCell'=true)
  (a1:∀c∈cs,cc c):gB P (g.gE w.heap.size ow) (w.alloc (.cells ws.toArray ty)) w.heap.size ow oc cs:=by
 refine ⟨ws.toArray,ty,heap_alloc_new w _,by simp [af.get.1],by simp [a5.gE],aK,fun i c av=>?_⟩
 obtain ⟨v,aG,aJ⟩:=af.get.2 i c av
 exact ⟨v,by simpa using aG,R v (List.mem_of_getElem? aG),aJ.mono (⟨fun _ _ _ h=>h,fun _ _ h=>h⟩:GhLe g (g.gE w.heap.size ow)),(a1 c (List.mem_of_getElem? av)).fo⟩
def rn (P:Program) (e:TypeId) (z:List AV):Bool :=
 match P.info? e with
 | some i=>(match i.zero with | some v=>v.cells.size==z.length&&(v.cells.toList.zip z).all fun (v,x)=>sU v x | none=>false)
 | none=>false
theorem s8 {e:TypeId} {z:List AV} (h:rn P e z=true):∃i v,P.info? e=some i∧i.zero=some v∧bW g z v.cells.toList∧(∀u∈v.cells.toList,u.oneCell'=true)∧∀c∈z,cc c:=by
 unfold rn at h
 split at h
 ·rename_i i av
  split at h
  ·rename_i v ax
   simp only [Bool.and_eq_true,beq_iff_eq] at h
   obtain ⟨R,aa⟩:=h
   have ao:∀(k:Nat) u c,v.cells.toList[k]?=some u→z[k]?=some c→cp g.γ c u∧u.oneCell'=true:=fun k u c hu af=>Bz (By (by simpa using R) aa k u c hu af)
   refine ⟨i,v,av,ax,.yi (by simpa using R) fun k c u af hu=>.pure _ _ (ao k u c hu af).1,fun u hu=>?_,fun c af=>?_⟩
   ·obtain ⟨k,ab,YH⟩:=List.getElem_of_mem hu
    have m6:k<z.length:=by have:k<v.cells.toList.length:=ab;simp at this;omega
    exact (ao k u z[k] (by rw [List.getElem?_eq_getElem ab,YH]) (by simp [m6])).2
   ·obtain ⟨k,ab,YI⟩:=List.getElem_of_mem af
    have m6:k<v.cells.toList.length:=by simp;omega
    have:=(ao k v.cells.toList[k] c (List.getElem?_eq_getElem m6) (by rw [List.getElem?_eq_getElem ab,YI])).1
    intro e sz xs bH
    subst bH;cases this
  ·cases h
 ·cases h
def vx (P:Program) (N:Nat) (o:Oper) (d:Nat) (z:List AV):Bool:=b2 N o d&&(match o.op with | .alloc e=>rn P e z | _=>false)
theorem yq {e:TypeId} {i:TypeInfo} {v:Value} (av:P.info? e=some i) (bx:i.zero=some v):(Instr.alloc e true (.tuple #[])).run P w=.ok (ptrTo w.heap.size 0) (w.alloc (.cells v.cells e)):=by
 simp [Instr.alloc,zeroValue,typeInfo,av,bx,newVar,newRow,newObj,Sem.run,ptrTo]
theorem YJ {d:Nat} {z:List AV} (h:Rel P gl N g s a w) (af:vx P N o d z=true) (he:au gl s (.alloc d z)=some s'):cJ P gl N o g a w s':=by
 simp only [vx,Bool.and_eq_true] at af
 obtain ⟨aw,aD⟩:=af
 split at aD
 ·rename_i e aE
  obtain ⟨i,v,aG,aJ,bo,cd,dV⟩:=s8 (g:=g) aD
  simp only [au] at he
  simp only [b2,Bool.and_eq_true,beq_iff_eq,decide_eq_true_eq] at aw
  obtain ⟨an,ar⟩:=h.alloc (.cells v.cells e) (.cV d)
  refine ⟨ptrTo w.heap.size 0,w.alloc (.cells v.cells e),g.gE w.heap.size (.cV d),.inl ?_,an,?_⟩
  ·simp only [execOp,aE,Sem.run_bind,yq aG aJ,Result.andThen_ok,Sem.run_pure]
  ·rw [aw.1]
   refine ar.hW he aw.2 ?_
   have:=gB.new (P:=P) (ow:=.cV d) (oc:=.lD d) (ty:=e) h.n2 bo cd dV
   simpa using this
 ·cases aD
def qb (N:Nat) (o:Oper) (d:Nat) (x:aq):Bool:=b2 N o d&&(match o.op with | .box _ a9=>cA a9 x | _=>false)
theorem yr (e:TypeId) (v:Value):(Instr.box e v).run P w=.ok (ptrTo w.heap.size 0) (w.alloc (.cells v.cells e)):=by
 simp [Instr.box,newVar,newRow,newObj,Sem.run,ptrTo]
theorem m7 {cs:List AV}:∀c∈cs.map AV.aL,cc c:=fun c af=>by
 obtain ⟨x,_,rfl⟩:=List.mem_map.1 af;exact cc.aL x
theorem YK {d:Nat} {x:aq} (h:Rel P gl N g s a w) (af:qb N o d x=true) (he:au gl s (.box d x)=some s'):cJ P gl N o g a w s':=by
 simp only [qb,Bool.and_eq_true] at af
 obtain ⟨aw,aD⟩:=af
 split at aD
 ·rename_i e a9 aE
  obtain ⟨u,R,aa⟩:=bind_some he
  split at aa
  ·rename_i iF
   simp only [b2,Bool.and_eq_true,beq_iff_eq,decide_eq_true_eq] at aw
   obtain ⟨aG,aJ⟩:=(ca h aD R).cells iF
   obtain ⟨an,ar⟩:=h.alloc (.cells (a.eval a9).cells e) (.cV d)
   refine ⟨ptrTo w.heap.size 0,w.alloc (.cells (a.eval a9).cells e),g.gE w.heap.size (.cV d),.inl ?_,an,?_⟩
   ·simp only [execOp,aE,Sem.run_bind,yr,Result.andThen_ok,Sem.run_pure]
   ·rw [aw.1]
    refine ar.hW aa aw.2 ?_
    have:=gB.new (P:=P) (ow:=.cV d) (oc:=.lD d) (ty:=e) h.n2 aG.aL aJ m7
    simpa using this
  ·cases aa
 ·cases aD
theorem Rel.g0 (h:Rel P gl N g s a w) {cs:List AV} {ws:List Value} (ty:TypeId) (af:bW g cs ws) (R:∀v∈ws,v.oneCell'=true) (a1:∀c∈cs,cc c) :
  ∃g',dj g w g' (w.alloc (.cells ws.toArray ty))∧Rel P gl N g' { s with heap:=s.heap++[aM.cells cs] } a (w.alloc (.cells ws.toArray ty))∧g'.b4 s.heap.length=some w.heap.size:=by
 obtain ⟨an,ar⟩:=h.alloc (.cells ws.toArray ty) (.bt s.heap.length)
 have ah:=gB.new (P:=P) (ow:=.bt s.heap.length) (oc:=.oc s.heap.length) (ty:=ty) h.n2 af R a1
 let bQ:a5:={ g.gE w.heap.size (.bt s.heap.length) with b4:=fun id=>if id=s.heap.length then some w.heap.size else g.b4 id }
 have hle:GhLe (g.gE w.heap.size (.bt s.heap.length)) bQ:=⟨fun _ _ _ h=>h,fun id b bG=>by
  have:=h.er id b bG
  simp [bQ,show id≠s.heap.length by omega];exact bG⟩
 have ab:∀K,Kept (g.gE w.heap.size (.bt s.heap.length)) (w.alloc (.cells ws.toArray ty)) bQ (w.alloc (.cells ws.toArray ty)) K:=fun K b _=>⟨rfl,rfl,fun _=>rfl⟩
 refine ⟨bQ,an.trans ⟨hle,fun b ah=>⟨ah,rfl,fun _=>rfl⟩,Nat.le_refl _,rfl,rfl⟩,?_,by simp [bQ]⟩
 refine ⟨ar.sorted,ar.size,ar.defers,fun t e he=>(ar.env t e he).kept hle (ab fun _=>True) trivial trivial (fun _=>trivial),fun id bt bh=>?_,ar.dY,ar.own,ar.e4,fun id b bG=>?_⟩
 ·simp only at bh
  rcases Nat.lt_trichotomy id s.heap.length with bz | rfl | LU
  ·rw [List.getElem?_append_left bz] at bh
   exact (ar.heap id bt bh).kept hle (ab fun _=>True) (fun _=>trivial) (fun _=>trivial)
  ·simp at bh;subst bh
   exact ⟨w.heap.size,by simp [bQ],ah.kept hle (ab fun _=>True) trivial (fun _=>trivial)⟩
  ·rw [List.getElem?_eq_none (by simp;omega)] at bh;cases bh
 ·simp only [List.length_append,List.length_singleton]
  by_cases e:id=s.heap.length
  ·omega
  ·simp [bQ,e] at bG;have:=h.er id b bG;omega
def B4 (P:Program) (N:Nat) (o:Oper) (d:Nat) (z:List AV):Bool:=vx P N o d z
theorem YL {d:Nat} {z:List AV} (h:Rel P gl N g s a w) (af:B4 P N o d z=true) (he:au gl s (.g0 d z)=some s'):cJ P gl N o g a w s':=by
 simp only [B4,vx,Bool.and_eq_true] at af
 obtain ⟨aw,aD⟩:=af
 split at aD
 ·rename_i e aE
  obtain ⟨i,v,aG,aJ,bo,cd,dV⟩:=s8 (g:=g) aD
  simp only [au] at he
  simp only [b2,Bool.and_eq_true,beq_iff_eq,decide_eq_true_eq] at aw
  obtain ⟨g',an,ar,aO⟩:=h.g0 e bo cd dV
  refine ⟨ptrTo w.heap.size 0,w.alloc (.cells v.cells e),g',.inl ?_,by simpa using an,?_⟩
  ·simp only [execOp,aE,Sem.run_bind,yq aG aJ,Result.andThen_ok,Sem.run_pure]
  ·rw [aw.1]
   have:=ar.put he aw.2 (.ptr _ 0 _ aO) (o1 _ _).fo
   simpa [ptrTo] using this
 ·cases aD
def B5 (N:Nat) (o:Oper) (d:Nat) (x:aq):Bool:=qb N o d x
theorem YM {d:Nat} {x:aq} (h:Rel P gl N g s a w) (af:B5 N o d x=true) (he:au gl s (.iR d x)=some s'):cJ P gl N o g a w s':=by
 simp only [B5,qb,Bool.and_eq_true] at af
 obtain ⟨aw,aD⟩:=af
 split at aD
 ·rename_i e a9 aE
  obtain ⟨u,R,aa⟩:=bind_some he
  split at aa
  ·rename_i iF
   simp only [b2,Bool.and_eq_true,beq_iff_eq,decide_eq_true_eq] at aw
   obtain ⟨aG,aJ⟩:=(ca h aD R).cells iF
   obtain ⟨g',an,ar,aO⟩:=h.g0 e aG.aL aJ m7
   refine ⟨ptrTo w.heap.size 0,w.alloc (.cells (a.eval a9).cells e),g',.inl ?_,by simpa using an,?_⟩
   ·simp only [execOp,aE,Sem.run_bind,yr,Result.andThen_ok,Sem.run_pure]
   ·rw [aw.1]
    have:=ar.put aa aw.2 (.ptr _ 0 _ aO) (o1 _ _).fo
    simpa [ptrTo] using this
  ·cases aa
 ·cases aD
end
end AM
/-! The simulation of stores, of loads that take, of literals and structs. -/
namespace AM
open Go
section
variable {P:Program} {gl:aR} {N:Nat} {g g':a5} {s s':ae} {a:Act} {w w':World} {o:Oper}
theorem vy:∀(vs cs:List AV) (off:Nat),off+vs.length≤cs.length→eV cs off vs=cs.take off++vs++cs.drop (off+vs.length)
 | [],cs,off,_=>by simp [eV]
 | v::r,cs,off,h=>by
  simp only [List.length_cons] at h
  rw [eV,vy r (cs.set off v) (off+1) (by simp;omega)]
  have bz:off<cs.length:=by omega
  apply List.ext_getElem?
  intro i
  simp only [List.getElem?_append,List.length_append,List.length_take,List.length_set,List.length_cons,List.getElem?_take,List.getElem?_set,List.getElem?_drop]
  rcases Nat.lt_trichotomy i off with av | rfl | av
  ·simp [show i<min (off+1) cs.length by omega,show i<off+1 by omega,show i<min off cs.length by omega,show i<off by omega,show ¬off=i by omega,show i<min (off+1) cs.length+r.length by omega,show i<min off cs.length+(r.length+1) by omega]
  ·simp [bz,show i<min (i+1) cs.length by omega,show ¬i<min i cs.length by omega,show i<min (i+1) cs.length+r.length by omega,show i<min i cs.length+(r.length+1) by omega,show i - min i cs.length=0 by omega]
  ·by_cases aa:i<off+1+r.length
   ·simp [show ¬i<min (off+1) cs.length by omega,show ¬i<min off cs.length by omega,show i<min (off+1) cs.length+r.length by omega,show i<min off cs.length+(r.length+1) by omega,
     show i - min off cs.length=(i - min (off+1) cs.length)+1 by omega]
   ·simp [show ¬i<min (off+1) cs.length+r.length by omega,show ¬i<min off cs.length+(r.length+1) by omega,
     show ¬off=off+(r.length+1)+(i - (min off cs.length+(r.length+1))) by omega,
     show off+1+r.length+(i - (min (off+1) cs.length+r.length))=off+(r.length+1)+(i - (min off cs.length+(r.length+1))) by omega]
theorem LV {α:Type} (l a7:List α) (off i:Nat) (h:off+a7.length≤l.length):(l.take off++a7++l.drop (off+a7.length))[i]?=if i<off then l[i]? else if i<off+a7.length then a7[i - off]? else l[i]?:=by
 have aB:(l.take off).length=off:=by simp;omega
 by_cases R:i<off
 ·rw [List.append_assoc,List.getElem?_append_left (by omega),List.getElem?_take];simp [R]
 ·by_cases aa:i<off+a7.length
  ·rw [List.append_assoc,List.getElem?_append_right (by omega),aB,List.getElem?_append_left (by omega)];simp [R,aa]
  ·rw [List.getElem?_append_right (by simp;omega),List.getElem?_drop]
   simp only [R,aa,if_false]
   congr 1;simp;omega
theorem gB.write {b:Nat} {ow:dh} {oc:Nat→dh} {cs vs:List AV} {us:List Value} {off:Nat} (h:gB P g w b ow oc cs) (ax:bW g vs us) (R:∀v∈us,v.oneCell'=true)
  (ah:off+vs.length≤cs.length) (aE:∀(i:Nat) c u,vs[i]?=some c→us[i]?=some u→dX P g w (oc (off+i)) c u) (ck:∀i,oc i≠ow) :
  ∃arr ty,w.heap[b]?=some (.cells arr ty (0,0))∧off+us.length≤arr.size ∧
   gB P g (w.setRow b (arr.toList.take off++us++arr.toList.drop (off+us.length)).toArray) b ow oc (eV cs off vs):=by
 obtain ⟨arr,ty,an,ar,aO,bD,ew⟩:=h
 have aN:=ax.get.1
 have ea:off+us.length≤arr.toList.length:=by simp;omega
 refine ⟨arr,ty,an,by omega,_,ty,setRow_heap w b arr _ ty (0,0) an,?_,aO,bD,fun i c af=>?_⟩
 ·rw [vy _ _ _ ah];simp;omega
 ·rw [vy _ _ _ ah,LV _ _ _ _ ah,←aN] at af
  have dx:∀{i:Nat} {c:AV} {v:Value},dX P g w (oc i) c v→dX P g (w.setRow b (arr.toList.take off++us++arr.toList.drop (off+us.length)).toArray) (oc i) c v:=by
   intro i c v bc
   refine bc.kept (K:=fun o=>o≠ow) ⟨fun _ _ _ h=>h,fun _ _ h=>h⟩ (fun k ab=>⟨rfl,?_,fun _=>rfl⟩) (ck i)
   exact setRow_other w b k _ (fun e=>ab (by rw [e,aO]))
  rw [List.getElem?_toArray,LV _ _ _ _ ea]
  by_cases fH:i<off
  ·simp only [fH,if_true] at af ⊢
   obtain ⟨v,bf,bu,b5,cy⟩:=ew i c af
   exact ⟨v,by simpa using bf,bu,b5,dx cy⟩
  ·by_cases kx:i<off+us.length
   ·simp only [fH,kx,if_true,if_false] at af ⊢
    obtain ⟨u,bf,bu⟩:=ax.get.2 _ _ af
    refine ⟨u,bf,R u (List.mem_of_getElem? bf),bu,?_⟩
    have:=dx (aE _ _ _ af bf)
    rwa [show off+(i - off)=i by omega] at this
   ·simp only [fH,kx,if_false] at af ⊢
    obtain ⟨v,bf,bu,b5,cy⟩:=ew i c af
    exact ⟨v,by simpa using bf,bu,b5,dx cy⟩
theorem B6 {b:Nat} {arr:Array Value} (ah:g.bd b≠.outer):dj g w g (w.setRow b arr) :=
 ⟨⟨fun _ _ _ h=>h,fun _ _ h=>h⟩,fun k ab=>⟨ab,setRow_other w b k _ (fun e=>ah (by rw [←e,ab])),fun _=>rfl⟩,by simp,rfl,rfl⟩
theorem B7 (h:Rel P gl N g s a w) {v:Value} {p:iD} (ao:s3 P g s a w v p) {vs:List AV} {us:List Value} (ax:bW g vs us) (R:∀v∈us,v.oneCell'=true)
  (aE:∀(i:Nat) c u,vs[i]?=some c→us[i]?=some u→match p with | .cV t off=>dX P g w (.lD t (off+i)) c u | .ao id off=>dX P g w (.oc id (off+i)) c u | .fl _=>False)
  (hw:aW s vs p=some s'):∃b off w',v=ptrTo b off∧(storeCells ⟨b,off,none⟩ us).run P w=.ok () w'∧dj g w g w'∧Rel P gl N g s' a w':=by
 have jZ:∀(b:Nat) (arr:Array Value),(∀off,g.γ b off=none)→∀k off v,g.γ k off=some v→(w.setRow b arr).cell? ⟨k,off,none⟩=some v:=by
  intro b arr ah k off v ab
  rw [cell_setRow_other w b arr _ (fun e=>by simp only at e;rw [e,ah] at ab;cases ab)]
  exact h.dY _ _ _ ab
 cases p with
 | cV t off =>
  obtain ⟨b,cs,aG,aJ,bo,cd⟩:=ao
  simp only [aW,aG] at hw
  split at hw
  ·rename_i ah
   simp at hw;subst hw
   have vz:=cd
   obtain ⟨arr,ty,an,ar,aO⟩:=cd.write ax R ah aE (fun i=>by simp)
   obtain ⟨_,_,_,_,b5,cy,_⟩:=vz
   have bM:=run_storeCells_at P b off ty us 0 arr w an (by simpa using ar) R
   simp only [Nat.add_zero] at bM
   refine ⟨b,off,_,bo,bM,B6 (by rw [b5];simp),Env.cR.ins h.sorted t _,h.size,h.defers,fun u e he=>?_,fun id bt bh=>?_,jZ b _ cy,fun k ab=>by simpa using h.own k ab,h.e4,h.er⟩
   ·simp only at he ⊢
    rw [Env.fm] at he
    split at he
    ·rename_i aF;subst aF;simp at he;subst he
     exact ⟨b,aJ,aO⟩
    ·rename_i aF
     have ab:Kept g w g (w.setRow b (arr.toList.take off++us++arr.toList.drop (off+us.length)).toArray) fun o=>o≠.cV t :=
      fun k ab=>⟨rfl,setRow_other w b k _ (fun e=>ab (by rw [e,b5])),fun _=>rfl⟩
     have ks:=(h.env u e he).kept ⟨fun _ _ _ h=>h,fun _ _ h=>h⟩ ab (by simp) (by simp [aF]) (by simp)
     cases e with
     | v x=>exact ks
     | b cs=>exact ks
     | a gF lI =>
      obtain ⟨⟨cG,hu⟩,aA⟩:=ks
      refine ⟨?_,aA⟩
      rw [Env.fm]
      by_cases e:gF=t
      ·simp [e]
      ·simp [e,hu]
   ·have ab:Kept g w g (w.setRow b (arr.toList.take off++us++arr.toList.drop (off+us.length)).toArray) fun o=>o≠.cV t :=
     fun k ab=>⟨rfl,setRow_other w b k _ (fun e=>ab (by rw [e,b5])),fun _=>rfl⟩
    exact (h.heap id bt bh).kept ⟨fun _ _ _ h=>h,fun _ _ h=>h⟩ ab (by simp) (by simp)
  ·cases hw
 | ao id off =>
  obtain ⟨b,aG,aJ⟩:=ao
  simp only [aW] at hw
  split at hw
  ·rename_i cs bG
   obtain ⟨bE,bK,cg⟩:=h.heap _ _ bG
   rw [aG] at bK;simp at bK;subst bK
   split at hw
   ·rename_i ah
    simp at hw;subst hw
    have vz:=cg
    obtain ⟨arr,ty,an,ar,aO⟩:=cg.write ax R ah aE (fun i=>by simp)
    obtain ⟨_,_,_,_,b5,cy,_⟩:=vz
    have bM:=run_storeCells_at P b off ty us 0 arr w an (by simpa using ar) R
    simp only [Nat.add_zero] at bM
    have ab:Kept g w g (w.setRow b (arr.toList.take off++us++arr.toList.drop (off+us.length)).toArray) fun o=>o≠.bt id :=
     fun k ab=>⟨rfl,setRow_other w b k _ (fun e=>ab (by rw [e,b5])),fun _=>rfl⟩
    refine ⟨b,off,_,aJ,bM,B6 (by rw [b5];simp),h.sorted,h.size,h.defers,
     fun u e he=>(h.env u e he).kept ⟨fun _ _ _ h=>h,fun _ _ h=>h⟩ ab (by simp) (by simp) (by simp),fun eP bt bh=>?_,jZ b _ cy,fun k ab=>by simpa using h.own k ab,h.e4,
     fun i b av=>by simpa using h.er i b av⟩
    simp only at bh
    rw [List.getElem?_set] at bh
    split at bh
    ·rename_i e;subst e
     split at bh
     ·simp at bh;subst bh
      exact ⟨b,aG,aO⟩
     ·cases bh
    ·rename_i e
     exact (h.heap eP bt bh).beside ⟨fun _ _ _ h=>h,fun _ _ h=>h⟩ ab (fun h=>e h.symm) aG (by simp [an]) (by simp) (by simp)
   ·cases hw
  ·rename_i bB cs bG
   obtain ⟨bE,kk,bK,B8,cg,⟨YN,cS,eC⟩,eK⟩:=h.heap _ _ bG
   rw [aG] at bK;simp at bK;subst bK
   split at hw
   ·rename_i ah
    simp at hw;subst hw
    have vz:=cg
    obtain ⟨arr,ty,an,ar,aO⟩:=cg.write ax R ah aE (fun i=>by simp)
    obtain ⟨_,_,_,_,b5,cy,_⟩:=vz
    have bM:=run_storeCells_at P b off ty us 0 arr w an (by simpa using ar) R
    simp only [Nat.add_zero] at bM
    have ab:Kept g w g (w.setRow b (arr.toList.take off++us++arr.toList.drop (off+us.length)).toArray) fun o=>o≠.bt id :=
     fun k ab=>⟨rfl,setRow_other w b k _ (fun e=>ab (by rw [e,b5])),fun _=>rfl⟩
    refine ⟨b,off,_,aJ,bM,B6 (by rw [b5];simp),h.sorted,h.size,h.defers,
     fun u e he=>(h.env u e he).kept ⟨fun _ _ _ h=>h,fun _ _ h=>h⟩ ab (by simp) (by simp) (by simp),fun eP bt bh=>?_,jZ b _ cy,fun k ab=>by simpa using h.own k ab,h.e4,
     fun i b av=>by simpa using h.er i b av⟩
    simp only at bh
    rw [List.getElem?_set] at bh
    split at bh
    ·rename_i e;subst e
     split at bh
     ·simp at bh;subst bh
      rw [cS] at an;simp at an;obtain ⟨rfl,rfl⟩:=an
      refine ⟨b,kk,aG,B8,aO,⟨_,setRow_heap w b YN _ bB (0,0) cS,?_⟩,eK⟩
      rw [←eC];simp;omega
     ·cases bh
    ·rename_i e
     exact (h.heap eP bt bh).beside ⟨fun _ _ _ h=>h,fun _ _ h=>h⟩ ab (fun h=>e h.symm) aG (by simp [an]) (by simp) (by simp)
   ·cases hw
  ·cases hw
 | fl cs=>simp [aW] at hw
def o5 (P:Program) (o:Oper) (n:Nat) (x v:aq):Bool:=o.dst==none &&
 (match o.op with | .store t a9 bP=>cA a9 x&&cA bP v&&(match P.info? t with | some i=>i.size==n | none=>false) | _=>false)
theorem B9 {t:TypeId} {i:TypeInfo} {b off:Nat} {u:Value} (av:P.info? t=some i) (a1:u.cells.size=i.size) (aA:(storeCells ⟨b,off,none⟩ u.cells.toList).run P w=.ok () w') :
  (Instr.storeAt t (ptrTo b off) u).run P w=.ok () w':=by
 simp [Instr.storeAt,Instr.sureAddr,ptrTo,storeVar,Go.sizeOf,typeInfo,av,a1,aA]
theorem LW {n:Nat} {x v:aq} (h:Rel P gl N g s a w) (af:o5 P o n x v=true) (he:au gl s (.st n x v)=some s'):cJ P gl N o g a w s':=by
 simp only [o5,Bool.and_eq_true,beq_iff_eq] at af
 obtain ⟨aw,aD⟩:=af
 split at aD
 ·rename_i t a9 bP aE
  simp only [Bool.and_eq_true] at aD
  obtain ⟨⟨ai,ax⟩,ab⟩:=aD
  split at ab
  ·rename_i i av
   simp at ab
   obtain ⟨p,aB,he⟩:=bind_some he
   obtain ⟨u,aI,he⟩:=bind_some he
   split at he
   ·rename_i ah
    obtain ⟨gC,fG⟩:=ah
    obtain ⟨an,ar⟩:=(ca h ax aI).cells fG
    obtain ⟨b,off,w',bf,bu,b5,cy⟩:=B7 h (mm h ai aB) an.aL ar (fun i c u af hu=>by
     have:=m7 c (List.mem_of_getElem? af)
     cases p with
     | cV t off=>exact this.fo
     | ao id off=>exact this.fo
     | fl cs=>simp [aW] at he) he
    have a1:(a.eval bP).cells.size=i.size:=by have:=an.get.1;simp at this;omega
    refine ⟨undef,w',g,.inr ⟨?_,rfl⟩,b5,?_⟩
    ·simp only [execOp,aE,Sem.run_bind,bf,B9 av a1 bu,Result.andThen_ok,Sem.run_pure]
    ·rw [aw];exact cy
   ·cases he
  ·cases ab
 ·cases aD
theorem s3.mono {v:Value} {p:iD} (h:s3 P g s a w v p) (cC:Rel P gl N g' s' a w') (aK:GhLe g g') (he:∀t cs,s.env.get t=some (.b cs)→s'.env.get t=some (.b cs)):s3 P g' s' a w' v p:=by
 cases p with
 | cV t off =>
  obtain ⟨b,cs,aG,aJ,bo,cd⟩:=h
  obtain ⟨bE,an,ar⟩:=cC.env _ _ (he _ _ aG)
  rw [aJ] at an;simp [ptrTo] at an;subst an
  exact ⟨b,cs,he _ _ aG,aJ,bo,ar⟩
 | ao id off=>obtain ⟨b,aG,aJ⟩:=h;exact ⟨b,aK.b4 _ _ aG,aJ⟩
 | fl cs=>obtain ⟨b,off,aG,aJ⟩:=h;exact ⟨b,off,aG,aJ.mono aK.γ⟩
theorem YO {x:aq} {v:Nat} (h:Rel P gl N g s a w) (af:o5 P o 1 x (.t v)=true) (he:au gl s (.fW x v)=some s'):cJ P gl N o g a w s':=by
 simp only [o5,Bool.and_eq_true,beq_iff_eq] at af
 obtain ⟨aw,aD⟩:=af
 split at aD
 ·rename_i t a9 bP aE
  simp only [Bool.and_eq_true] at aD
  obtain ⟨⟨ai,ax⟩,ab⟩:=aD
  have cF:bP=.tmp v:=by unfold cA at ax;split at ax<;>simp_all
  subst cF
  split at ab
  ·rename_i i av
   simp at ab
   obtain ⟨p,aB,he⟩:=bind_some he
   split at he
   ·rename_i e sz xs qc
    obtain ⟨s1,aI,he⟩:=bind_some he
    obtain ⟨al,aY⟩:=h.strip qc
    rw [al] at aI;simp at aI;subst aI
    obtain ⟨u,aG,aJ,bo⟩:=h.env _ _ qc
    have jB:hX { s with env:=s.env.ins v (.v (.list none sz xs)) } (.var v) :=
     ⟨fun t z aF bx=>by simp at aF;subst aF;simp only [Env.fm] at bx;simp at bx;subst bx;exact cc.none _ _,by simp,by simp,by simp,by simp,by simp⟩
    -- the owner that the address names
    have Ca:∀y:dh,y≠.none→∃g',dj g w g' w∧Rel P gl N g' { s with env:=s.env.ins v (.v (.list none sz xs)) } a w∧dX P g' w y (.list (some e) sz xs) u:=by
     intro y _
     cases ah:u.ownBlock with
     | none=>exact ⟨g,dj.refl _ _,aY,bo.free ah⟩
     | some b =>
      obtain ⟨j2,z,vs,bK,cg,cS,eC,eK,iY,vA,iG,hv⟩:=bo e sz xs rfl
      obtain ⟨et,ey⟩:=aY.pass (.var v) y jB (by simp) (hv b ah).1 (by simp)
      exact ⟨_,et,ey,bo.pass b ah⟩
    have g3:u.cells.size=1∧u.cells.toList=[u]∧u.oneCell'=true:=by
     obtain ⟨base,cap,rfl,_⟩:=aJ.p7
     exact ⟨rfl,rfl,rfl⟩
    have yt:∀t cs,s.env.get t=some (.b cs)→({ s with env:=s.env.ins v (.v (.list none sz xs)) }:ae).env.get t=some (.b cs):=by
     intro t cs aF
     simp only [Env.fm]
     have:t≠v:=by rintro rfl;rw [qc] at aF;simp at aF
     simp [this,aF]
    let y:dh:=match p with | .cV t off=>.lD t off | .ao id off=>.oc id off | .fl _=>.vj
    obtain ⟨g',et,ey,hi⟩:=Ca y (by cases p<;>simp [y])
    have yu:=(mm h ai aB).mono ey et.toGhLe yt
    have fR:bW g' [.list (some e) sz xs] [u]:=.cons _ _ _ _ (aJ.mono et.toGhLe) .nil
    obtain ⟨b,off,w',bf,bu,b5,cy⟩:=B7 ey yu fR (by simp [g3.2.2]) (fun i c gF af hu=>by
     cases i with
     | zero =>
      simp at af hu;subst af hu
      cases p with
      | cV t off=>simpa [y] using hi
      | ao id off=>simpa [y] using hi
      | fl cs=>simp [aW] at he
     | succ i=>simp at af) he
    refine ⟨undef,w',g',.inr ⟨?_,rfl⟩,et.trans b5,?_⟩
    ·have cD:a.eval (.tmp v)=u:=by simp [Act.eval,aG]
     simp only [execOp,aE,Sem.run_bind,bf,cD,B9 av (by rw [g3.1,ab]) (by rw [g3.2.1];exact bu),Result.andThen_ok,Sem.run_pure]
    ·rw [aw];exact cy
   ·cases he
  ·cases ab
 ·cases aD
end
end AM
/-! The simulation of loads that take, of literals, structs, arrays' slices, made slices. -/
namespace AM
open Go
section
variable {P:Program} {gl:aR} {N:Nat} {g g':a5} {s s':ae} {a:Act} {w w':World} {o:Oper}
theorem gB.strip {b:Nat} {ow:dh} {oc:Nat→dh} {cs:List AV} {off e sz:Nat} {xs:List AV} (h:gB P g w b ow oc cs) (af:cs[off]?=some (.list (some e) sz xs)) :
  gB P g w b ow oc (cs.set off (.list none sz xs))∧∃v,w.cell? ⟨b,off,none⟩=some v∧aU g (.list (some e) sz xs) v∧dX P g w (oc off) (.list (some e) sz xs) v:=by
 obtain ⟨arr,ty,an,ar,aO,bD,ew⟩:=h
 obtain ⟨v,bf,bu,b5,cy⟩:=ew off _ af
 refine ⟨⟨arr,ty,an,by simpa using ar,aO,bD,fun i c av=>?_⟩,v,by rw [cell_of_row w b off arr ty (0,0) an];exact bf,b5,cy⟩
 rw [List.getElem?_set] at av
 split at av
 ·rename_i e;subst e
  split at av
  ·simp at av;subst av
   exact ⟨v,bf,bu,b5.aL,(cc.none _ _).fo⟩
  ·cases av
 ·exact ew i c av
theorem Cb {cs:List AV} {off:Nat} {x:AV} (e:(cs.drop off).take 1=[x]):cs[off]?=some x:=by
 have:((cs.drop off).take 1)[0]?=some x:=by rw [e];rfl
 simpa [List.getElem?_take,List.getElem?_drop] using this
def Cc (P:Program) (N:Nat) (o:Oper) (d:Nat) (x:aq) (e sz:Nat):Bool:=p8 P N o d x 1 false&&hf P e sz
theorem YP {d:Nat} {x:aq} {bB jW:Nat} (h:Rel P gl N g s a w) (af:Cc P N o d x bB jW=true) (he:au gl s (.gO d x bB jW)=some s'):cJ P gl N o g a w s':=by
 simp only [Cc,p8,Bool.and_eq_true] at af
 obtain ⟨⟨aw,aD⟩,cq⟩:=af
 split at aD
 ·rename_i t a9 aE
  simp only [Bool.and_eq_true] at aD
  obtain ⟨⟨ai,ea⟩,ab⟩:=aD
  have bM:∀b off v,a.eval a9=ptrTo b off→w.cell? ⟨b,off,none⟩=some v→(execOp a.eval o).run P w=.ok (.value v) w:=by
   intro b off v ax g3
   simp only [execOp,aE,Sem.run_bind,ax]
   split at ab
   ·simp at ab
   ·simp at ab
   ·rename_i kv oZ o0 g4
    rw [yk g4 ⟨fun cu e=>oZ cu e,fun n e bH=>o0 n e bH⟩ g3];rfl
   ·cases ab
  have dZ:=aw
  simp only [b2,Bool.and_eq_true,beq_iff_eq,decide_eq_true_eq] at dZ
  simp only [au] at he
  obtain ⟨p,R,he⟩:=bind_some he
  obtain ⟨cs,aa,he⟩:=bind_some he
  split at he
  ·rename_i e sz xs
   obtain ⟨s1,al,aY⟩:=bind_some he
   have yu:=mm h ai R
   cases p with
   | cV u off =>
    obtain ⟨b,cG,aG,aJ,bo,cd⟩:=yu
    simp only [aV,aG] at aa
    simp only [aW,aG] at al
    split at aa
    ·rename_i ah
     simp at aa
     rw [if_pos (by simpa using ah)] at al
     simp at al;subst al
     have gD:=Cb aa
     obtain ⟨an,v,ar,aO,bD⟩:=cd.strip gD
     have mn:eV cG off [.list none sz xs]=cG.set off (.list none sz xs):=rfl
     have bn:Rel P gl N g { s with env:=s.env.ins u (.b (eV cG off [.list none sz xs])) } a w:=by
      refine ⟨Env.cR.ins h.sorted u _,h.size,h.defers,fun t y aT=>?_,h.heap,h.dY,h.own,h.e4,h.er⟩
      simp only at aT ⊢
      rw [Env.fm] at aT
      split at aT
      ·rename_i aF;subst aF;simp at aT;subst aT
       exact ⟨b,aJ,by rw [mn];exact an⟩
      ·rename_i aF
       have cw:=h.env t y aT
       cases y with
       | v y=>exact cw
       | b cs=>exact cw
       | a gF lI =>
        obtain ⟨⟨aqJ,hu⟩,aA⟩:=cw
        refine ⟨?_,aA⟩
        rw [Env.fm]
        by_cases e:gF=u
        ·simp [e]
        ·simp [e,hu]
     have jB:hX { s with env:=s.env.ins u (.b (eV cG off [.list none sz xs])) } (.lD u off):=by
      refine ⟨by simp,fun t i cs c aF eb af=>?_,by simp,by simp,by simp,by simp⟩
      simp at aF;obtain ⟨rfl,rfl⟩:=aF
      simp only [Env.fm] at eb;simp at eb;subst eb
      rw [mn] at af
      rw [List.getElem?_set_self (by have:=(List.getElem?_eq_some_iff.1 gD).1;exact this)] at af
      simp at af;subst af;exact cc.none _ _
     obtain ⟨g',bf,bu⟩:=bn.sW jB (by simp) (by simp) dZ.2 aY aO bD ⟨e,sz,xs,rfl⟩
     exact ⟨v,w,g',.inl (bM b off v bo ar),bf,by rw [dZ.1];exact bu⟩
    ·cases aa
   | ao id off =>
    obtain ⟨b,aG,aJ⟩:=yu
    simp only [aV] at aa
    split at aa
    ·rename_i cG bG
     obtain ⟨bE,bK,cg⟩:=h.heap _ _ bG
     rw [aG] at bK;simp at bK;subst bK
     split at aa
     ·rename_i ah
      simp at aa
      simp only [aW,bG] at al
      rw [if_pos (by simpa using ah)] at al
      simp at al;subst al
      have gD:=Cb aa
      obtain ⟨an,v,ar,aO,bD⟩:=cg.strip gD
      have mn:eV cG off [.list none sz xs]=cG.set off (.list none sz xs):=rfl
      have k2:id<s.heap.length:=(List.getElem?_eq_some_iff.1 bG).1
      have bn:Rel P gl N g { s with heap:=s.heap.set id (.cells (eV cG off [.list none sz xs])) } a w:=by
       refine ⟨h.sorted,h.size,h.defers,h.env,fun eP bt bh=>?_,h.dY,h.own,h.e4,fun i b av=>by simpa using h.er i b av⟩
       simp only at bh
       rw [List.getElem?_set] at bh
       split at bh
       ·rename_i e;subst e
        simp at bh;subst bh
        exact ⟨b,aG,by rw [mn];exact an⟩
       ·exact h.heap eP bt bh
      have jB:hX { s with heap:=s.heap.set id (.cells (eV cG off [.list none sz xs])) } (.oc id off):=by
       refine ⟨by simp,by simp,fun eP i cs c aF eb af=>?_,fun eP i n es aF eb=>?_,by simp,by simp⟩
       ·simp at aF;obtain ⟨rfl,rfl⟩:=aF
        simp only at eb
        rw [List.getElem?_set_self k2] at eb
        simp at eb;subst eb
        rw [mn] at af
        rw [List.getElem?_set_self (by have:=(List.getElem?_eq_some_iff.1 gD).1;exact this)] at af
        simp at af;subst af;exact cc.none _ _
       ·simp at aF;obtain ⟨rfl,rfl⟩:=aF
        simp only at eb
        rw [List.getElem?_set_self k2] at eb
        simp at eb
      obtain ⟨g',bf,bu⟩:=bn.sW jB (by simp) (by simp) dZ.2 aY aO bD ⟨e,sz,xs,rfl⟩
      exact ⟨v,w,g',.inl (bM b off v aJ ar),bf,by rw [dZ.1];exact bu⟩
     ·cases aa
    ·rename_i aB cG bG
     obtain ⟨bE,kk,bK,B8,cg,cS⟩:=h.heap _ _ bG
     rw [aG] at bK;simp at bK;subst bK
     split at aa
     ·rename_i ah
      simp at aa
      simp only [aW,bG] at al
      rw [if_pos (by simpa using ah)] at al
      simp at al;subst al
      have gD:=Cb aa
      obtain ⟨an,v,ar,aO,bD⟩:=cg.strip gD
      have mn:eV cG off [.list none sz xs]=cG.set off (.list none sz xs):=rfl
      have k2:id<s.heap.length:=(List.getElem?_eq_some_iff.1 bG).1
      have bn:Rel P gl N g { s with heap:=s.heap.set id (.buf aB (eV cG off [.list none sz xs])) } a w:=by
       refine ⟨h.sorted,h.size,h.defers,h.env,fun eP bt bh=>?_,h.dY,h.own,h.e4,fun i b av=>by simpa using h.er i b av⟩
       simp only at bh
       rw [List.getElem?_set] at bh
       split at bh
       ·rename_i e;subst e
        simp at bh;subst bh
        exact ⟨b,kk,aG,B8,by rw [mn];exact an,cS⟩
       ·exact h.heap eP bt bh
      have jB:hX { s with heap:=s.heap.set id (.buf aB (eV cG off [.list none sz xs])) } (.oc id off):=by
       refine ⟨by simp,by simp,fun eP i cs c aF eb af=>?_,fun eP i n es aF eb=>?_,by simp,by simp⟩
       ·simp at aF;obtain ⟨rfl,rfl⟩:=aF
        simp only at eb
        rw [List.getElem?_set_self k2] at eb
        simp at eb;subst eb
        rw [mn] at af
        rw [List.getElem?_set_self (by have:=(List.getElem?_eq_some_iff.1 gD).1;exact this)] at af
        simp at af;subst af;exact cc.none _ _
       ·simp at aF;obtain ⟨rfl,rfl⟩:=aF
        simp only at eb
        rw [List.getElem?_set_self k2] at eb
        simp at eb
      obtain ⟨g',bf,bu⟩:=bn.sW jB (by simp) (by simp) dZ.2 aY aO bD ⟨e,sz,xs,rfl⟩
      exact ⟨v,w,g',.inl (bM b off v aJ ar),bf,by rw [dZ.1];exact bu⟩
     ·cases aa
    ·cases aa
   | fl cG=>simp [aW] at al
  ·rename_i z
   obtain ⟨b,off,ax,⟨ws,an,ar,aO,bD⟩,ew⟩:=LO h (mm h ai R) aa
   cases ar with
   | cons _ _ u us hu oW =>
    cases oW
    have g3:=bD 0 u (by simp)
    have hu:=hu.m5
    subst hu
    refine ⟨_,w,g,.inl (bM b off _ ax (by simpa using g3)),.refl _ _,?_⟩
    rw [dZ.1]
    exact h.put he dZ.2 (.own _ _ _ _ (.fP _ _ _ (by simp))) (vl cq g w _)
  ·cases he
 ·cases aD
theorem aU.Cd {x:AV} {v:Value} (h:aU g x v) (ai:x.dw=true):cp g.γ x v:=by
 cases h with
 | pure _ _ h=>exact h
 | own=>simp [AV.dw] at ai
 | ptr=>simp [AV.dw] at ai
 | map=>simp [AV.dw] at ai
 | bI=>simp [AV.dw] at ai
 | fb=>simp [AV.dw] at ai
 | fn=>simp [AV.dw] at ai
 | agg=>simp [AV.dw] at ai
 | bw=>simp [AV.dw] at ai
theorem bW.Ce {cs:List AV} {ws:List Value} (h:bW g cs ws) (af:cs.all AV.dw=true) (R:∀v∈ws,v.oneCell'=true):e3 g.γ cs ws:=by
 induction ws generalizing cs with
 | nil=>cases h;exact .nil
 | cons w ws ih=>cases h with
  | cons c cs _ _ ax fQ =>
   simp only [List.all_cons,Bool.and_eq_true] at af
   exact .cons _ _ _ _ (R w (by simp)) (ax.Cd af.1) (ih fQ af.2 fun v ax=>R v (by simp [ax]))
theorem aU.Cf {x:AV} {v:Value} (h:aU g x v) (ai:x.pure=true):cp g.γ x v:=by
 by_cases hY:∃cs,x=.agg cs
 ·obtain ⟨cs,rfl⟩:=hY
  obtain ⟨ws,rfl,aG,aJ⟩:=h.jD
  exact .agg _ _ (aG.Ce (by simpa [AV.pure] using ai) aJ)
 ·refine h.Cd ?_
  cases x<;>first | exact ai | exact absurd ⟨_,rfl⟩ hY
def a5.im (g:a5) (b:Nat) (arr:Array Value):a5:={ g with γ:=fun k off=>if k=b then arr[off]? else g.γ k off,bd:=fun k=>if k=b then .vj else g.bd k }
theorem Rel.Cg (h:Rel P gl N g s a w) (arr:Array Value) (ty:TypeId) :
  dj g w (g.im w.heap.size arr) (w.alloc (.cells arr ty))∧Rel P gl N (g.im w.heap.size arr) s a (w.alloc (.cells arr ty)):=by
 have hle:GhLe g (g.im w.heap.size arr):=⟨fun b off v ax=>by
  have:b≠w.heap.size:=fun e=>by subst e;rw [h.n2] at ax;cases ax
  simp [a5.im,this,ax],fun _ _ h=>h⟩
 have ck:∀b,g.bd b≠.none→b≠w.heap.size:=fun b ah e=>by subst e;exact ah h.s7
 have j3:∀b,g.bd b≠.none→(g.im w.heap.size arr).bd b=g.bd b∧(w.alloc (.cells arr ty)).heap[b]?=w.heap[b]?∧∀o,(g.im w.heap.size arr).γ b o=g.γ b o:=fun b ah =>
  ⟨by simp [a5.im,ck b ah],heap_alloc_old w _ b (h.own b ah),fun _=>by simp [a5.im,ck b ah]⟩
 refine ⟨⟨hle,fun b ah=>?_,by rw [jE];omega,rfl,rfl⟩,h.step .none (hX.none s) hle (fun b ah=>j3 b ah.1) (fun b off v ax=>?_) (fun b ah=>?_) h.er⟩
 ·obtain ⟨R,aa,al⟩:=j3 b (by rw [ah];simp)
  exact ⟨R.trans ah,aa,al⟩
 ·by_cases e:b=w.heap.size
  ·subst e
   simp [a5.im] at ax
   rw [cell_of_row _ _ _ arr ty (0,0) (heap_alloc_new w _)];exact ax
  ·simp [a5.im,e] at ax;exact LS _ (h.dY b off v ax)
 ·by_cases e:b=w.heap.size
  ·rw [jE];omega
  ·simp [a5.im,e] at ah;have:=h.own b ah;rw [jE];omega
theorem dt.yv {γ:dp} {b:Nat}:∀{cs:List AV} {ws:List Value} {off:Nat},e3 γ cs ws→(∀(i:Nat) v,ws[i]?=some v→γ b (off+i)=some v)→dt γ b off cs
 | [],_,_,.nil,_=>.nil _ _
 | c::cs,_,off,.cons _ _ v ws R aa al,h=>.cons _ _ _ _ v (by simpa using h 0 v (by simp)) R aa (dt.yv al fun i u hu=>by
   have:=h (i+1) u (by simpa using hu);rw [←this];congr 1;omega)
theorem dd.vB {γ:dp} {b sz:Nat}:∀{xs:List AV} {rows:List (List Value)} {off:Nat},xs.length=rows.length →
  (∀(i:Nat) x r,xs[i]?=some x→rows[i]?=some r→x.cells.length=sz∧e3 γ x.cells r∧r.length=sz)→(∀(i:Nat) v,rows.flatten[i]?=some v→γ b (off+i)=some v)→dd γ b off sz xs
 | [],_,_,_,_,_=>.nil _ _ _
 | x::xs,[],_,h,_,_=>by simp at h
 | x::xs,r::rows,off,h,aA,aK=>by
  obtain ⟨R,aa,al⟩:=aA 0 x r (by simp) (by simp)
  refine .cons _ _ _ _ _ R (dt.yv aa fun i v ax=>aK i v ?_) (dd.vB (rows:=rows) (by simpa using h) (fun i x r ai iZ=>aA (i+1) x r (by simpa using ai) (by simpa using iZ)) fun i v ax=>?_)
  ·rw [List.flatten_cons,List.getElem?_append_left (List.getElem?_eq_some_iff.1 ax).1];exact ax
  ·have:=aK (sz+i) v (by rw [List.flatten_cons,List.getElem?_append_right (by omega)];rw [←ax];congr 1;omega)
   rw [←this];congr 1;omega
theorem cp.cells {γ:dp} {x:AV} {v:Value} (h:cp γ x v):e3 γ x.cells v.cells.toList:=by
 cases h with
 | agg cs ws h=>simpa [AV.cells,Value.cells] using h
 | bool b=>exact .cons _ _ _ _ rfl (.bool b) .nil
 | int k n=>exact .cons _ _ _ _ rfl (.int k n) .nil
 | str l h=>exact .cons _ _ _ _ rfl (.str l h) .nil
 | dP=>exact .cons _ _ _ _ rfl .dP .nil
 | eN=>exact .cons _ _ _ _ rfl .eN .nil
 | gz=>exact .cons _ _ _ _ rfl .gz .nil
 | gm=>exact .cons _ _ _ _ rfl .gm .nil
 | aH sz=>exact .cons _ _ _ _ rfl (.aH sz) .nil
 | cU b off cs h=>exact .cons _ _ _ _ rfl (.cU b off cs h) .nil
 | fP sz base cap h=>exact .cons _ _ _ _ rfl (.fP sz base cap h) .nil
 | eE sz base cap=>exact .cons _ _ _ _ rfl (.eE sz base cap) .nil
 | list b off cap sz xs R aa al=>exact .cons _ _ _ _ rfl (.list b off cap sz xs R aa al) .nil
theorem yw (off:Nat):∀(us:List Value) (k:Nat) (A:Array Value),off+k+us.length≤A.size →
  ((us.zipIdx k).foldl (fun cs (c,j)=>cs.setIfInBounds (off+j) c) A).toList=A.toList.take (off+k)++us++A.toList.drop (off+k+us.length)
 | [],k,A,_=>by simp
 | u::us,k,A,h=>by
  simp only [List.length_cons] at h
  rw [List.zipIdx_cons,List.foldl_cons,yw off us (k+1) _ (by simp;omega)]
  have e:=list_seg_step A.toList (off+k) u us (by simp;omega)
  simpa [Array.toList_setIfInBounds,Nat.add_assoc] using e
theorem LX (size:Nat):∀(vs:List Value) (k:Nat) (A:Array Value),(∀v∈vs,v.cells.size=size)→A.size=(k+vs.length)*size →
  ∃B,Instr.fill (fun i=>some (i*size,size)) A ((vs.zipIdx k).map fun (v,i)=>(i,v))=some B∧B.toList=A.toList.take (k*size)++(vs.map (·.cells.toList)).flatten
 | [],k,A,_,h=>⟨A,by simp [Instr.fill],by simp at h ⊢;rw [List.take_of_length_le (by simp;omega)]⟩
 | v::vs,k,A,ax,h=>by
  have ea:=ax v (by simp)
  have hle:k*size+size≤A.size:=by
   rw [h];simp only [List.length_cons]
   have:(k+(vs.length+1))*size=k*size+size+vs.length*size:=by rw [Nat.add_mul,Nat.add_mul];omega
   omega
  have aP:=yw (k*size) v.cells.toList 0 A (by simp;omega)
  simp only [Nat.add_zero] at aP
  have dk:(v.cells.zipIdx.foldl (fun cs (c,j)=>cs.setIfInBounds (k*size+j) c) A)=(v.cells.toList.zipIdx.foldl (fun cs (c,j)=>cs.setIfInBounds (k*size+j) c) A):=by
   rw [←Array.foldl_toList];simp
  have YQ:(v.cells.toList.zipIdx.foldl (fun cs (c,j)=>cs.setIfInBounds (k*size+j) c) A).size=A.size:=by
   rw [←Array.length_toList,aP];simp [ea];omega
  have hmul:(k+1+vs.length)*size=(k+(v::vs).length)*size:=by congr 1;simp;omega
  obtain ⟨B,R,aa⟩:=LX size vs (k+1) (v.cells.zipIdx.foldl (fun cs (c,j)=>cs.setIfInBounds (k*size+j) c) A) (fun u hu=>ax u (by simp [hu])) (by
   rw [dk,YQ,h,hmul])
  refine ⟨B,?_,?_⟩
  ·simp only [List.zipIdx_cons,List.map_cons,Instr.fill]
   rw [if_neg (by simp [ea];omega)]
   exact R
  ·rw [aa,dk,aP,List.take_left' (by simp [ea,Nat.add_mul];omega)]
   simp only [List.map_cons,List.flatten_cons,List.append_assoc]
end
end AM
/-! The simulation of literals, structs, arrays' slices, made slices, appends. -/
namespace AM
open Go
section
variable {P:Program} {gl:aR} {N:Nat} {g g':a5} {s s':ae} {a:Act} {w w':World} {o:Oper}
def rp (P:Program) (t e sz:Nat):Bool :=
 match P.underlying t with
 | some (.slice bH)=>bH==e&&hf P e sz
 | _=>false
theorem ky {e sz:Nat} (h:hf P e sz=true):∃i z,P.info? e=some i∧i.size=sz∧0<sz∧i.zero=some z∧z.cells.size=sz∧i.bytes≤128:=by
 unfold hf at h
 split at h
 ·rename_i i av
  simp only [Bool.and_eq_true,beq_iff_eq,decide_eq_true_eq] at h
  obtain ⟨⟨⟨R,aa⟩,al⟩,aY⟩:=h
  split at al
  ·rename_i z bx
   simp at al
   exact ⟨i,z,av,R,aa,bx,al,aY⟩
  ·cases al
 ·cases h
theorem rq {t e sz:Nat} (h:rp P t e sz=true):P.underlying t=some (.slice e)∧hf P e sz=true:=by
 unfold rp at h
 split at h
 ·simp at h;obtain ⟨rfl,h⟩:=h;exact ⟨by assumption,h⟩
 ·cases h
def Ch (n:Nat) (bT:List (Nat×Operand)):Bool:=(bT.map (·.1))==List.range n
def yx (P:Program) (t sz:Nat):Bool :=
 match P.underlying t with
 | some (.slice e)=>hf P e sz&&decide (sz≤1000)
 | _=>false
def s9 (P:Program) (N:Nat) (o:Oper) (d sz:Nat) (xs:List aq):Bool:=b2 N o d &&
 (match o.op with | .buildSlice t n bT=>n==xs.length&&Ch n bT.toList&&gQ (bT.toList.map (·.2)) xs&&yx P t sz | _=>false)
theorem Ci {n:Nat} {bT:List (Nat×Operand)} (h:Ch n bT=true) (f:Operand→Value) :
  bT.map (fun (i,x)=>(i,f x))=((bT.map (·.2)).map f).zipIdx.map fun (v,i)=>(i,v):=by
 simp only [Ch,beq_iff_eq] at h
 apply List.ext_getElem?
 intro i
 have av:(bT.map (·.1))[i]?=(List.range n)[i]?:=by rw [h]
 simp only [List.getElem?_map,List.getElem?_zipIdx,Nat.zero_add] at av ⊢
 cases ao:bT[i]? with
 | none=>simp
 | some p =>
  simp only [ao,Option.map_some] at av ⊢
  have bz:i<n:=by
   have R:=(List.getElem?_eq_some_iff.1 ao).1
   have aa:(bT.map (·.1)).length=n:=by rw [h];simp
   simp at aa;omega
  simp [bz] at av
  simp [av]
theorem yy {t e:TypeId} {i:TypeInfo} {z:Value} {vs:List Value} (hu:P.underlying t=some (.slice e)) (av:P.info? e=some i) (bx:i.zero=some z)
  (aS:0<i.size) (ax:∀v∈vs,v.cells.size=i.size) (a1:vs.length*i.size≤2 ^ 24) :
  (Instr.buildSlice t vs.length (vs.zipIdx.map fun (v,i)=>(i,v)).toArray).run P w =
   .ok (.slice (some ⟨w.heap.size,0,none⟩) vs.length vs.length) (w.alloc (.cells (vs.map (·.cells.toList)).flatten.toArray e)):=by
 have dk:((Array.range (vs.length*i.size)).map (z.cells[· % z.cells.size]!)).size=(0+vs.length)*i.size:=by simp
 obtain ⟨B,R,aa⟩:=LX i.size vs 0 _ ax dk
 simp only [Nat.zero_mul,List.take_zero,List.nil_append] at aa
 have fZ:B=(vs.map (·.cells.toList)).flatten.toArray:=by apply Array.ext';simpa using aa
 have Cj:¬(vs.length*i.size>2 ^ 24):=by omega
 simp only [Instr.buildSlice,Sem.run_bind,run_underlying hu,Result.andThen_ok,Go.sizeOf,typeInfo,run_program,av,Sem.run_pure,Sem.run_ite,Cj,if_false]
 by_cases a0:vs.length*i.size=0
 ·have fQ:vs=[]:=by
   rcases Nat.mul_eq_zero.1 a0 with h | h
   ·exact List.eq_nil_of_length_eq_zero h
   ·omega
  subst fQ
  have bB:Array.range 0=#[]:=rfl
  simp [newRow,newObj,Sem.run,Instr.fill,bB]
 ·rw [if_neg a0]
  have aN:(List.map (fun (x:Value×Nat)=>(x.2,x.1)) vs.zipIdx)=vs.zipIdx.map fun (v,i)=>(i,v):=rfl
  simp only [zeroValue,typeInfo,Sem.run_bind,run_program,av,Result.andThen_ok,Sem.run_pure,bx]
  simp only [aN,R]
  simp [newRow,newObj,Sem.run,fZ]
theorem YR {d sz:Nat} {xs:List aq} (h:Rel P gl N g s a w) (af:s9 P N o d sz xs=true) (he:au gl s (.lit d sz xs)=some s'):cJ P gl N o g a w s':=by
 simp only [s9,Bool.and_eq_true] at af
 obtain ⟨aw,aD⟩:=af
 split at aD
 ·rename_i t n bT aE
  simp only [Bool.and_eq_true,beq_iff_eq] at aD
  obtain ⟨⟨⟨rfl,rr⟩,gR⟩,ab⟩:=aD
  unfold yx at ab
  split at ab
  ·rename_i e hu
   simp only [Bool.and_eq_true,decide_eq_true_eq] at ab
   obtain ⟨fh,ga⟩:=ab
   obtain ⟨i,z,bf,bu,b5,cy,eW,eF⟩:=ky fh
   obtain ⟨vs,aB,aI⟩:=bind_some he
   split at aI
   ·rename_i ah
    simp only [Bool.and_eq_true,decide_eq_true_eq,List.all_eq_true,beq_iff_eq] at ah
    obtain ⟨gC,fG⟩:=ah
    have fR:=oV h gR aB
    have j4:(bT.map fun (i,x)=>(i,a.eval x))=(((bT.toList.map (·.2)).map a.eval).zipIdx.map fun (v,i)=>(i,v)).toArray:=by
     rw [←Ci rr a.eval];apply Array.ext';simp
    have g5:xs.length=((bT.toList.map (·.2)).map a.eval).length:=by
     simp only [gQ,Bool.and_eq_true,beq_iff_eq] at gR;rw [List.length_map];exact gR.1.symm
    generalize (bT.toList.map (·.2)).map a.eval=us at fR j4 g5
    have hh:=fR.get
    -- the concrete elements
    have vC:∀(k:Nat) x v,vs[k]?=some x→us[k]?=some v→cp g.γ x.aL v∧x.aL.cells.length=sz∧v.cells.size=sz:=by
     intro k x v ai ax
     obtain ⟨hx,ja⟩:=gC x (List.mem_of_getElem? ai)
     obtain ⟨bP,an,ar⟩:=hh.2 k x ai
     rw [ax] at an;simp at an;subst an
     have ao:=ar.aL.Cf hx
     have gG:x.aL.cells.length=sz:=by
      have:x.aL.cells.length=x.cells.length:=by cases x<;>rfl
      rw [this];exact ja
     refine ⟨ao,gG,?_⟩
     have Ck:=ao.cells
     have:∀{cs:List AV} {ws:List Value},e3 g.γ cs ws→ws.length=cs.length:=by
      intro cs ws bc
      induction ws generalizing cs with
      | nil=>cases bc;rfl
      | cons w ws ih=>cases bc with | cons _ _ _ _ _ _ al=>simp [ih al]
     have:=this Ck
     simp at this;omega
    have yz:∀v∈us,v.cells.size=i.size:=by
     intro v ax
     obtain ⟨k,fp,eL⟩:=List.getElem_of_mem ax
     have m6:k<vs.length:=by have:=hh.1;omega
     have:=(vC k vs[k] v (by simp [m6]) (by rw [List.getElem?_eq_getElem fp,eL])).2.2
     omega
    have bM:=yy (P:=P) (w:=w) hu bf cy (by omega) yz (by
     have R:us.length≤1000:=by rw [hh.1];exact fG
     calc _≤1000*1000:=Nat.mul_le_mul R (by omega)
      _≤2 ^ 24:=by decide)
    obtain ⟨an,ar⟩:=h.Cg (us.map (·.cells.toList)).flatten.toArray e
    refine ⟨.slice (some ⟨w.heap.size,0,none⟩) us.length us.length,_,_,.inl ?_,an,?_⟩
    ·simp only [execOp,aE,Sem.run_bind]
     rw [j4,g5,bM];rfl
    ·simp only [b2,Bool.and_eq_true,beq_iff_eq,decide_eq_true_eq] at aw
     rw [aw.1]
     refine ar.put aI aw.2 (.pure _ _ ?_) (cc.none _ _).fo
     refine .s5 (by rw [List.length_map];exact hh.1) (by simp;unfold M;omega) (by rw [List.length_map];omega) ?_
     refine dd.vB (rows:=us.map (·.cells.toList)) (by rw [List.length_map,List.length_map];exact hh.1.symm) (fun k x r ai aA=>?_) fun k v ax=>by simpa [a5.im] using ax
     rw [List.getElem?_map] at ai aA
     cases ru:vs[k]? with
     | none=>simp [ru] at ai
     | some a9 =>
      cases rv:us[k]? with
      | none=>simp [rv] at aA
      | some bP =>
       simp [ru] at ai;simp only [rv,Option.map_some,Option.some.injEq] at aA;subst ai aA
       obtain ⟨bK,cg,cS⟩:=vC k a9 bP ru rv
       exact ⟨cg,(bK.mono an.γ).cells,by simpa using cS⟩
   ·cases aI
  ·cases ab
 ·cases aD
end
end AM
