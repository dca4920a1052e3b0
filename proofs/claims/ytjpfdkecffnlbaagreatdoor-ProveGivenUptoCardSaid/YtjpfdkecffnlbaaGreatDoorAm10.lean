/- An abstract machine for the program of the seat, and what of the given program it does, part 11 of 17. Conditions: none. -/
import Derived.Test.YtjpfdkecffnlbaaGreatDoorAm9
import Derived.RangeFuncFrom
import Derived.TacticsIn
set_option linter.unusedVariables false
set_option linter.unusedSimpArgs false
/-! Steps of the abstract machine within a fence; the iterator over a map's keys. Conditions: the map's values are bools. -/
namespace AM
open Go
section
variable {P:Program} {gl:aR} {N:Nat} {g g':a5} {s s':ae} {a:Act} {w w':World} {F:Fence} {n:Nat} {Q:Exit→Act→World→Prop} {ops:Array Oper} {rest:List Oper} {o:Oper}
def tY (gl:aR):List bR→ae→Option ae
 | [],s=>some s
 | o::r,s=>(au gl s o).bind (tY gl r)
def gd (o:Oper):Bool:=o.guard.isNone&&(match o.op with | .defer _=>false | _=>true)
def nt (P:Program) (N:Nat):List Oper→List bR→Bool
 | [],[]=>true
 | o::os,iu::tZ=>gd o&&hA P N o iu&&nt P N os tZ
 | _,_=>false
def acD (os:List Oper) (a bO:Act):Prop:=∀t,(∀o∈os,o.dst≠some t)→bO.tmps[t]?=a.tmps[t]?
theorem pw {ys:Nat→Option Bool} (h:gd o=true):Region.wanted o ys=true:=by
 simp only [gd,Bool.and_eq_true,Option.isNone_iff_eq_none] at h
 simp [Region.wanted,h.1]
theorem px (h:gd o=true):∀c,o.op≠.defer c:=by
 intro c af
 simp only [gd,Bool.and_eq_true,af] at h
 cases h.2
theorem mC (v:Value) (t:Nat) (h:o.dst≠some t):(a.put o.dst v).tmps[t]?=a.tmps[t]?:=by
 cases aE:o.dst with
 | none=>rfl
 | some d =>
  simp only [Act.put]
  rw [Array.getElem?_setIfInBounds_ne (fun e=>h (by rw [aE,e]))]
theorem ua (ek:∀f,F.fn f) (ao:gd o=true) (h:cJ P gl N o g a w s')
  (K:∀v w' g',dj g w g' w'→Rel P gl N g' s' (a.put o.dst v) w'→wpListIn F n P ops Q rest (a.put o.dst v) w'):wpListIn F n P ops Q (o::rest) a w:=by
 obtain ⟨v,w',g',aA,R,aa⟩:=h
 unfold wpListIn
 rw [if_pos (pw ao)]
 refine ⟨fun f _=>ek f,?_⟩
 rw [Oper.semAt_eq _ _ _ (px ao)]
 rcases aA with aA | ⟨aA,rfl⟩
 ·rw [aA];exact K v w' g' R aa
 ·rw [aA];exact K _ w' g' R aa
theorem Om (ek:∀f,F.fn f):∀(os:List Oper) (tZ:List bR) {g:a5} {s:ae} {a:Act} {w:World},nt P N os tZ=true→Rel P gl N g s a w→tY gl tZ s=some s' →
  (∀g' bO w',dj g w g' w'→Rel P gl N g' s' bO w'→acD os a bO→wpListIn F n P ops Q rest bO w')→wpListIn F n P ops Q (os++rest) a w
 | [],[],g,s,a,w,_,h,he,K=>by
  simp only [tY,Option.some.injEq] at he;subst he
  exact K g a w (dj.refl _ _) h (fun _ _=>rfl)
 | [],_::_,_,_,_,_,af,_,_,_=>by simp [nt] at af
 | _::_,[],_,_,_,_,af,_,_,_=>by simp [nt] at af
 | o::os,iu::tZ,g,s,a,w,af,h,he,K=>by
  simp only [nt,Bool.and_eq_true] at af
  obtain ⟨⟨ao,aE⟩,aA⟩:=af
  simp only [tY] at he
  obtain ⟨s1,R,aa⟩:=bind_some he
  refine ua ek ao (pn h aE R) fun v w' g' an ar=>?_
  refine Om ek os tZ aA ar aa fun ya hG yb bf bu b5=>K ya hG yb (an.trans bf) bu fun t aF=>?_
  rw [b5 t (fun bZ pt=>aF bZ (by simp [pt])),mC v t (aF o (by simp))]
def ot:aR:=fun _=>none
def j9 (b1 bi:Nat):a5:=⟨fun _ _=>none,fun b=>if b=b1 then .bt 0 else if b=bi then .bt 1 else .none,fun id=>if id=0 then some b1 else if id=1 then some bi else none⟩
def dA:AV→Bool | .bool _=>true | _=>false
theorem aU.zz {x:AV} {v:Value} (ai:dA x=true) (h:aU g x v) (g':a5):aU g' x v:=by
 cases x<;>simp [dA] at ai
 have:=h.kt;subst this;exact .pure _ _ (.bool _)
theorem D0 {x:AV} (ai:dA x=true):cc x:=by
 cases x<;>simp [dA] at ai
 exact ku _
theorem iV.to {id eP b m:Nat} {es:List (AV×AV)} (h:iV P g w id b m es) (ax:∀e∈es,dA e.2=true) (jb:g'.bd b=.bt eP):iV P g' w eP b m es:=by
 obtain ⟨arr,aG,aJ,⟨b9,an,ar,aO⟩,cd,dV,fY,jY⟩:=h
 refine ⟨arr,aG,jb,⟨b9,an,ar,fun i e m he hm=>?_⟩,cd,dV,fY,jY⟩
 obtain ⟨bf,bu,b5,cy⟩:=aO i e m he hm
 have ah:=ax e (an.mem_iff.1 (List.mem_of_getElem? he))
 exact ⟨.pure _ _ (aU.fA bu bf),bu,b5.zz ah g',(D0 ah).fo⟩
def ub (b1:Nat):a5:=⟨fun _ _=>none,fun b=>if b=b1 then .bt 0 else .none,fun id=>if id=0 then some b1 else none⟩
theorem acE {id b m:Nat} {es:List (AV×AV)} (h:iV P g w id b m es) (ax:∀e∈es,dA e.2=true) (aZ:a.tmps.size=N) (aw:a.defers=[]) {t:Nat} (aF:a.tmps[t]?=some (.map (some b))) :
  Rel P ot N (ub b) ⟨[(t,.v (.map 0))],[.map m es]⟩ a w:=by
 have ah:b<w.heap.size:=by obtain ⟨arr,aG,_⟩:=h;exact (Array.getElem?_eq_some_iff.1 aG).1
 refine ⟨by simp,aZ,aw,fun u e he=>?_,fun i bt aE=>?_,(fun _ _ _ h=>by cases h),fun k ab=>?_,(fun _ _ h=>by cases h),fun i k ab=>?_⟩
 ·simp only [Env.get] at he
  split at he
  ·rename_i hu;subst hu;simp at he;subst he
   exact ⟨_,aF,.map 0 b (by simp [ub]),.jX (by simp)⟩
  ·cases he
 ·cases i with
  | zero=>simp at aE;subst aE;exact ⟨b,by simp [ub],h.to ax (by simp [ub])⟩
  | succ i=>simp at aE
 ·simp only [ub] at ab
  split at ab
  ·rename_i e;subst e;exact ah
  ·exact absurd rfl ab
 ·simp only [ub] at ab
  split at ab
  ·rename_i e;subst e;simp
  ·cases ab
structure kL (P:Program) (w:World) (b1 bi m:Nat) (es:List (AV×AV)) (seen:List AV):Prop where
 ne:bi≠b1
 mp:iV P (j9 b1 bi) w 0 b1 m es
 it:∃o,w.heap[bi]?=some o∧kY (j9 b1 bi) w m seen (some 0) o
theorem kL.of {b1 bi m:Nat} {es:List (AV×AV)} {seen:List AV} (h:Rel P gl N g s a w) (ax:∀e∈es,dA e.2=true) (a0:s.heap[0]?=some (.map m es)) (R:s.heap[1]?=some (.iter (some 0) m seen))
  (ah:g.b4 0=some b1) (av:g.b4 1=some bi):kL P w b1 bi m es seen:=by
 obtain ⟨b,aG,aJ⟩:=h.heap 0 _ a0
 rw [ah] at aG;simp at aG;subst aG
 obtain ⟨bE,o,an,ar,aO,bD⟩:=h.heap 1 _ R
 rw [av] at an;simp at an;subst an
 have ck:bi≠b1:=by
  rintro rfl
  obtain ⟨arr,bf,_⟩:=aJ
  rw [bf] at ar;simp at ar;subst ar
  simp [kY] at bD
 refine ⟨ck,aJ.to ax (by simp [j9]),o,ar,?_⟩
 cases o<;>simp only [kY] at bD
 rename_i mp iL eO last
 cases mp with
 | none=>exact bD.elim
 | some eQ =>
  obtain ⟨cf,cY,eS,fJ,iM,yN⟩:=bD
  rw [ah] at cf;simp at cf;subst cf
  exact ⟨by simp [j9],by simp [j9],eS,fJ,iM,yN⟩
theorem kL.keeps {b1 bi m:Nat} {es:List (AV×AV)} {seen:List AV} (h:kL P w b1 bi m es seen) (ax:∀e∈es,dA e.2=true) (ab:KeepsWalks w w'):kL P w' b1 bi m es seen:=by
 obtain ⟨ck,hm,o,aE,kE⟩:=h
 have k7:w'.heap[b1]?=w.heap[b1]?:=by obtain ⟨arr,aG,_⟩:=hm;rw [aG];exact ab.same _ _ aG rfl
 cases o<;>simp only [kY] at kE
 rename_i mp iL eO last
 have iE:w'.heap[bi]?=w.heap[bi]?:=by rw [aE];exact ab.same _ _ aE rfl
 cases mp with
 | none=>exact kE.elim
 | some eQ =>
  obtain ⟨cf,cY,eS,fJ,iM,arr,k,yN,D1⟩:=kE
  have aI:eQ=b1:=by simp [j9] at cf;exact cf.symm
  subst aI
  refine ⟨ck,?_,_,iE.trans aE,cf,cY,eS,fJ,iM.kept k7,arr,k,k7.trans yN,D1⟩
  obtain ⟨arr,aG,aJ,⟨b9,an,ar,aO⟩,cd,dV,fY,jY⟩:=hm
  refine ⟨arr,k7.trans aG,aJ,⟨b9,an,ar,fun i e m he hm=>?_⟩,cd,dV,fY,jY⟩
  obtain ⟨bf,bu,b5,cy⟩:=aO i e m he hm
  exact ⟨bf,bu,b5,(D0 (ax e (an.mem_iff.1 (List.mem_of_getElem? he)))).fo⟩
theorem kL.rel {b1 bi m:Nat} {es:List (AV×AV)} {seen:List AV} (h:kL P w b1 bi m es seen) (aZ:a.tmps.size=N) (aw:a.defers=[]) {t:Nat} (aF:a.tmps[t]?=some (ptrTo bi 0)) :
  Rel P ot N (j9 b1 bi) ⟨[(t,.v (.ptr 1 0))],[.map m es,.iter (some 0) m seen]⟩ a w:=by
 obtain ⟨ck,hm,o,aE,kE⟩:=h
 have ah:b1<w.heap.size:=by obtain ⟨arr,aG,_⟩:=hm;exact (Array.getElem?_eq_some_iff.1 aG).1
 have av:bi<w.heap.size:=(Array.getElem?_eq_some_iff.1 aE).1
 refine ⟨by simp,aZ,aw,fun u e he=>?_,fun i bt bh=>?_,(fun _ _ _ h=>by cases h),fun k ab=>?_,(fun _ _ h=>by cases h),fun i k ab=>?_⟩
 ·simp only [Env.get] at he
  split at he
  ·rename_i hu;subst hu;simp at he;subst he
   exact ⟨_,aF,.ptr 1 0 bi (by simp [j9]),.jX (by simp)⟩
  ·cases he
 ·match i,bh with
  | 0,bh=>simp at bh;subst bh;exact ⟨b1,by simp [j9],hm⟩
  | 1,bh=>simp at bh;subst bh;exact ⟨bi,o,by simp [j9],aE,by simp [j9,ck],kE⟩
  | i+2,bh=>simp at bh
 ·simp only [j9] at ab
  split at ab
  ·rename_i e;subst e;exact ah
  ·split at ab
   ·rename_i e;subst e;exact av
   ·exact absurd rfl ab
 ·simp only [j9] at ab
  split at ab
  ·rename_i e;subst e;simp
  ·split at ab
   ·rename_i e;subst e;simp
   ·cases ab
def D2 (w:World) (bi:Nat):Nat:=match w.heap[bi]? with | some (.mapIter _ _ eO _)=>eO.size | _=>0
theorem kL.On {b1 bi m:Nat} {es:List (AV×AV)} {seen:List AV} (h:kL P w b1 bi m es seen):D2 w bi=seen.length:=by
 obtain ⟨ck,hm,o,aE,kE⟩:=h
 cases o<;>simp only [kY] at kE
 rename_i mp iL eO last
 cases mp with
 | none=>exact kE.elim
 | some eQ =>
  obtain ⟨cf,cY,eS,fJ,⟨L,cT,cn,fC,_⟩,_⟩:=kE
  simp [D2,aE,fC]
def D3:Op→Bool | .move (.tmp t)=>t==0 | _=>false
def D4:Op→Bool
 | .call c=>(match c.callee with | .value (.tmp t)=>t==10 | _=>false)&&(match c.args.toList with | [.tmp t]=>t==11 | _=>false)
 | _=>false
def zA (P:Program) (N:Nat):List Oper→Bool
 | [fq,x1]=>gd fq&&p8 P N fq 4 (.t 1) 1 false&&gd x1&&hA P N x1 (.kX 5 (.t 4))
 | _=>false
def wI (P:Program) (N:Nat):List Oper→Bool
 | [x2,x3]=>gd x2&&yL N x2 6 (.t 5)&&gd x3&&hA P N x3 (.ext 7 6 0)
 | _=>false
def wJ (P:Program) (N:Nat) (fU:bR):List Oper→Bool
 | [hP,eA,gp,gq]=>gd hP&&b2 N hP 10&&D3 hP.op&&gd eA&&hA P N eA fU&&gd gp&&b2 N gp 12&&D4 gp.op&&gd gq&&hA P N gq (.cB 13 (.t 12))
 | _=>false
def jN (t:Nat) (l:List Oper):Bool:=l.all fun o=>o.dst != some t
def r4 (P:Program) (N:Nat) (pre:List bR) (fU:bR):Code→Bool
 | .seq (.region _ uc false) (.block iO (.loop (.seq (.region _ j0 false) (.seq (.cond (.tmp t7) .skip (.exit Oo)) (.block _ (.seq (.region _ ik false) (.seq (.region _ ka false) (.cond (.tmp t13) .ret .skip)))))))) =>
  Oo==iO&&t7==7&&t13==13&&decide (13<N)&&zA P N uc.toList&&wI P N j0.toList&&nt P N ik.toList ([.iU 8 (.t 5),.ext 9 8 0]++pre)&&wJ P N fU ka.toList &&
   jN 0 uc.toList&&jN 0 j0.toList&&jN 0 ik.toList&&jN 0 ka.toList&&jN 5 j0.toList&&jN 5 ik.toList&&jN 5 ka.toList&&jN 10 ((ka.toList.drop 1).take 1)
 | _=>false
theorem acF {l:Nat} {x:Value} {r:Next} {w':World} (aE:D4 o.op=true) (a0:a.tmps[10]?=some (.func (.yield l) #[] #[])) (R:a.tmps[11]?=some x)
  (aA:(Instr.yield l #[x]).run P w=.ok r w'):(execOp a.eval o).run P w=.ok r w':=by
 unfold D4 at aE
 split at aE
 ·rename_i c aD
  simp only [Bool.and_eq_true] at aE
  obtain ⟨aa,al⟩:=aE
  split at aa
  ·rename_i t lQ
   split at al
   ·rename_i u k9
    simp only [beq_iff_eq] at aa al
    subst aa al
    have wy:a.eval (.tmp 10)=.func (.yield l) #[] #[]:=by simp [Act.eval,Array.getD_eq_getD_getElem?,a0]
    have zi:c.args.map a.eval=#[x]:=by
     apply Array.ext'
     simp [k9,Act.eval,Array.getD_eq_getD_getElem?,R]
    simp only [execOp,aD,resolve,lQ,wy,zi,Deferred.ofValue,Sem.run_bind,Sem.run_pure,Result.andThen_ok,invoke]
    simpa using aA
   ·cases al
  ·cases aa
 ·cases aE
theorem acG {v:Value} (aE:D3 o.op=true) (a0:a.tmps[0]?=some v):(execOp a.eval o).run P w=.ok (.value v) w:=by
 unfold D3 at aE
 split at aE
 ·rename_i t aD
  simp only [beq_iff_eq] at aE;subst aE
  simp [execOp,aD,Act.eval,Array.getD_eq_getD_getElem?,a0]
 ·cases aE
end
end AM
/-! The iterator of maps.Keys gives a map's keys, each once, in some order. Conditions: the map's values are bools. -/
namespace AM
open Go
section
variable {P:Program} {gl:aR} {N:Nat} {g g':a5} {s s':ae} {a:Act} {w w':World} {F:Fence} {n:Nat} {Q:Exit→Act→World→Prop} {ops:Array Oper} {rest:List Oper} {o:Oper}
def np:a5:=⟨fun _ _=>none,fun _=>.none,fun _=>none⟩
def ou (w:World):a5:=⟨fun _ _=>none,fun b=>if b<w.heap.size then .outer else .none,fun _=>none⟩
theorem wK (h:dj (ou w) w g' w'):w.grownBy w' none :=
 ⟨congrArg Prod.fst h.os,congrArg Prod.snd h.os,h.out,h.size,fun k ab _=>(h.outer k (by simp [ou,ab])).2.1⟩
theorem wL (aZ:a.tmps.size=N) (aw:a.defers=[]) {e:List (Nat×AV)} (aS:e.Pairwise fun p q=>p.1<q.1) (he:∀p∈e,∃v,a.tmps[p.1]?=some v∧aU (ou w) p.2 v∧cc p.2) :
  Rel P ot N (ou w) ⟨e.map fun p=>(p.1,.v p.2),[]⟩ a w:=by
 refine ⟨by rw [List.pairwise_map];exact aS,aZ,aw,fun t x ai=>?_,fun i bt aE=>by simp at aE,(fun _ _ _ h=>by cases h),fun b ah=>?_,(fun _ _ h=>by cases h),(fun _ _ h=>by cases h)⟩
 ·have:=Env.m0 ai
  obtain ⟨p,ao,Oq⟩:=List.mem_map.1 this
  simp only [Prod.mk.injEq] at Oq
  obtain ⟨rfl,rfl⟩:=Oq
  obtain ⟨v,R,aa,al⟩:=he p ao
  exact ⟨v,R,aa,al.fo⟩
 ·by_cases h:b<w.heap.size
  ·exact h
  ·simp [ou,h] at ah
def lU (pre:List bR) (fU:bR) (k:AV):Prop :=
 ∃s2,tY ot pre ⟨[(9,.v k)],[]⟩=some s2∧c9 s2.env 10=true∧∃lN,au ot { s2 with env:=s2.env.del 10 } fU=some lN∧lN.env.get 11=some (.v k)
theorem acH (s:List UInt8):lU [.I 3 (.t 9)] (.I 11 (.t 3)) (.str s):=⟨_,rfl,rfl,_,rfl,rfl⟩
theorem acI (z cs:List AV) (bx:z.length=3) (af:cs.length=3) (h:∀c∈cs,(match c with | .str _ | .int _ _ | .bool _=>true | _=>false)=true):lU [.alloc 3 z,.st 3 (.t 3) (.t 9)] (.ak 11 (.t 3) 3 true) (.agg cs):=by
 match z,cs,bx,af with
 | [mv,h2,rE],[gT,cf,cY],_,_ =>
  have a1:∀c∈[gT,cf,cY],c.one=true∧c.aL=c:=fun c af=>by
   have:=h c af
   cases c<;>simp at this<;>exact ⟨rfl,rfl⟩
  obtain ⟨py,iO⟩:=a1 gT (by simp)
  obtain ⟨de,e5⟩:=a1 cf (by simp)
  obtain ⟨dR,eQ⟩:=a1 cY (by simp)
  refine ⟨⟨[(3,.b [gT,cf,cY]),(9,.v (.agg [gT,cf,cY]))],[]⟩,?_,rfl,⟨[(3,.b [gT,cf,cY]),(9,.v (.agg [gT,cf,cY])),(11,.v (.agg [gT,cf,cY]))],[]⟩,?_,rfl⟩
  ·simp [tY,au,ae.hW,hV,eJ,Env.ins,dn,Env.get,bl,AV.cells,py,de,dR,iO,e5,eQ,aW,eV]
  ·simp [au,dn,Env.get,Env.del,aV,iO,e5,eQ,ae.put,c9,Env.ins]
theorem acJ {x y:AV} (ai:fA x=true) (h:cI x y=false):x≠y:=fun e=>by
 subst e;rw [tm ai] at h;cases h
theorem acK {x:AV} (h:fA x=true):cc x:=by
 cases x<;>simp only [fA,Bool.false_eq_true] at h<;>exact fun _ _ _ h=>by simp at h
structure zB (P:Program) (N l b1 bi m:Nat) (es:List (AV×AV)) (J:List Value→World→Prop) (a:Act) (w:World) (seen:List AV) (xs:List Value):Prop where
 size:a.tmps.size=N
 defers:a.defers=[]
 Ot:a.tmps[0]?=some (.func (.yield l) #[] #[])
 it:a.tmps[5]?=some (ptrTo bi 0)
 wM:kL P w b1 bi m es seen
 iq:bW np seen xs
 nodup:seen.Nodup
 mem:∀k∈seen,k∈es.map (·.1)
 j:J xs w
theorem nodup_keys {b m id:Nat} {es:List (AV×AV)} (h:iV P g w id b m es):(es.map (·.1)).Nodup∧∀e∈es,fA e.1=true:=by
 obtain ⟨arr,aG,aJ,⟨b9,an,ar,aO⟩,cd,dV,fY,jY⟩:=h
 have ab:∀e∈es,fA e.1=true:=fun e he=>by
  obtain ⟨i,av,acL⟩:=List.getElem_of_mem (an.mem_iff.2 he)
  exact (aO i e _ (by rw [←acL];exact List.getElem?_eq_getElem av) (List.getElem?_eq_getElem (by omega))).2.1
 refine ⟨?_,ab⟩
 rw [List.Nodup,List.pairwise_map]
 exact fY.imp_of_mem fun aZ ah h=>acJ (ab _ aZ) h
theorem bW.len {xs:List AV} {vs:List Value} (h:bW g xs vs):vs.length=xs.length:=h.get.1
theorem acM {b1 bi m:Nat} {es:List (AV×AV)} {seen:List AV} (h:kL P w b1 bi m es seen):∃o:Obj,w.heap[bi]?=some o∧o.isWalk=true:=by
 obtain ⟨ck,hm,o,aE,kE⟩:=h
 cases o<;>simp only [kY] at kE
 exact ⟨_,aE,rfl⟩
theorem zC {b1 bi m:Nat} {es:List (AV×AV)} {seen:List AV} (h:kL P w b1 bi m es seen) (ax:∀e∈es,dA e.2=true) (aK:w.grownBy w' none):kL P w' b1 bi m es seen :=
 h.keeps ax ⟨aK.size,fun k o ab _=>(aK.block k (Array.getElem?_eq_some_iff.1 ab).1 (by simp)).trans ab⟩
section
variable {l b1 bi m:Nat} {es:List (AV×AV)} {J Jx:List Value→World→Prop} {pre:List bR} {fU:bR} {seen:List AV} {xs:List Value} {i1 i2 i3 iO e5 B:Nat} {j0 ik ka:Array Oper} {x2 x3 hP eA gp gq mv h2:Oper} {k5:List Oper}
theorem acN {k:AV} {es:List (AV×AV)} (ab:fA k=true):∀{e},e∈es→e.1=k→∃v,gP es k=some v:=by
 induction es with
 | nil=>intro e h;cases h
 | cons p r ih =>
  intro e h he
  obtain ⟨k',u⟩:=p
  simp only [gP]
  by_cases ni:cI k k'=true
  ·exact ⟨u,by simp [ni]⟩
  ·rcases List.mem_cons.1 h with rfl | h
   ·simp only at he;subst he;exact absurd (tm ab) ni
   ·obtain ⟨v,ax⟩:=ih h he
    exact ⟨v,by simp [ni,ax]⟩
theorem acO (ek:∀f,F.fn f) (a1:F.depth.isSome=true→1≤n) (ax:∀e∈es,dA e.2=true) (ab:∀e∈es,lU pre fU e.1) (v9:13<N) (fZ:B≤bi)
  (zD:j0.toList=[x2,x3]) (zE:ik.toList=mv::h2::k5) (zF:ka.toList=[hP,eA,gp,gq])
  (cf:wI P N [x2,x3]=true) (cY:nt P N (mv::h2::k5) (.iU 8 (.t 5)::.ext 9 8 0::pre)=true) (eS:wJ P N fU [hP,eA,gp,gq]=true)
  (et:jN 0 [x2,x3]=true) (ey:jN 0 (mv::h2::k5)=true) (hi:jN 0 [hP,eA,gp,gq]=true) (bK:jN 5 [x2,x3]=true) (eK:jN 5 (mv::h2::k5)=true) (cS:jN 5 [hP,eA,gp,gq]=true) (eX:jN 10 [eA]=true)
  (nu:AbidesFrom B J)
  {p:Value→Prop} (ao:∀e∈es,∀v,aU np e.1 v→p v) (wN:∀pre x lV,J pre lV→p x→pre.length<es.length→YieldAt F (n - 1) P l #[x] lV fun e cM=>(e=.returned (.bool true)∧J (pre++[x]) cM∧KeepsWalks lV cM)∨(e=.returned (.bool false)∧Jx (pre++[x]) cM))
  (h:zB P N l b1 bi m es J a w seen xs) (acP:∀bO w',bO.defers=[]→seen.Perm (es.map (·.1))→J xs w'→Q .normal bO w')
  (acQ:∀bO w' pre,bO.defers=[]→Jx pre w'→Q .ret bO w') (wO:∀pre W cM,Jx pre W→W.grownBy cM none→Jx pre cM) (lW:Act→World→Prop) (g7:∀bO w' k x,zB P N l b1 bi m es J bO w' (seen++[k]) (xs++[x])→lW bO w') :
  (Code.seq (.region i1 j0 false) (.seq (.cond (.tmp 7) .skip (.exit iO)) (.block e5 (.seq (.region i2 ik false) (.seq (.region i3 ka false) (.cond (.tmp 13) .ret .skip)))))).wpIn F n P (Exit.then lW (Exit.inBlock iO Q)) a w:=by
 simp only [wI,wJ,Bool.and_eq_true] at cf eS
 obtain ⟨⟨⟨aJ,cb⟩,bo⟩,ds⟩:=cf
 obtain ⟨⟨⟨⟨⟨⟨⟨⟨⟨gu,d0⟩,iI⟩,an⟩,cT⟩,ar⟩,d2⟩,cg⟩,aO⟩,fC⟩:=eS
 simp only [jN,List.all_cons,List.all_nil,Bool.and_true,Bool.and_eq_true,bne_iff_ne,ne_eq] at et ey hi bK eK cS eX
 have gb:=h.wM.rel h.size h.defers h.it
 obtain ⟨acR,n5⟩:=nodup_keys h.wM.mp
 have g6:sS [aM.map m es,.iter (some 0) m seen] (.ptr 1 0)=some (1,some 0,m,seen,es.filter fun e=>!seen.any (cI e.1)):=by simp [sS]
 refine wpIn_seq (wpIn_region_list ?_)
 rw [zD]
 simp only [yL,Bool.and_eq_true] at cb
 obtain ⟨qw,D5⟩:=cb
 split at D5
 case h_2=>cases D5
 rename_i mr acS
 have Ou:x2.dst=some 6:=by simp only [b2,Bool.and_eq_true,beq_iff_eq] at qw;exact qw.1
 have en:∀(a:Act) (d t:Nat) (v:Value),a.tmps.size=N→d<N→(a.put (some d) v).tmps[t]?=if t=d then some v else a.tmps[t]?:=fun a d t v aZ aw=>m1 (by rw [aZ];exact aw) v t
 unfold wpListIn
 rw [if_pos (pw aJ)]
 refine ⟨fun f _=>ek f,?_⟩
 rw [Oper.semAt_eq _ _ _ (px aJ)]
 rcases MH gb acS D5 (x:=.ptr 1 0) rfl g6 with ⟨n9,bM⟩ | ⟨e,he,b3,v,bM,hle,fR,acT,o9⟩
 · -- nothing is left
  rw [bM]
  show wpListIn F n P j0 _ [x3] (a.put x2.dst _) w
  rw [Ou]
  have j5:Rel P ot N (ou w) _ (a.put (some 6) (.tuple #[.bool false])) w:=wL (N:=N) (a:=a.put (some 6) (.tuple #[.bool false])) (e:=[(6,.bw [.bool false])]) (by simp [Act.put,h.size]) h.defers (by simp) (fun p ao=>by
   simp at ao;subst ao
   exact ⟨_,by rw [en _ _ _ _ h.size (by omega)];simp,.bw _ [.bool false] (.cons _ _ _ _ (.pure _ _ (.bool _)) .nil),fun _ _ _ h=>by simp at h⟩)
  refine ua ek bo (pn j5 ds rfl) fun v w' g' bf bu=>?_
  refine wpListIn_nil ?_
  show (Code.seq _ _).wpIn F n P _ _ _
  obtain ⟨u,wP,wQ,_⟩:=bu.env 7 (.v (.bool false)) rfl
  have:=wQ.kt;subst this
  refine wpIn_seq (wpIn_cond_false (by simp [Act.eval,Array.getD_eq_getD_getElem?,wP]) (wpIn_exit ?_))
  simp only [Exit.then,Exit.inBlock,if_true]
  refine acP _ _ bu.defers ?_ (nu xs w w' none h.j (wK bf) (fun r e=>by cases e))
  refine (List.perm_ext_iff_of_nodup h.nodup acR).2 fun k=>⟨h.mem k,fun ab=>?_⟩
  obtain ⟨e,he,rfl⟩:=List.mem_map.1 ab
  rw [List.filter_eq_nil_iff] at n9
  have aa:=n9 e he
  simp only [Bool.not_eq_true,Bool.not_eq_false',List.any_eq_true] at aa
  obtain ⟨k',fp,vP⟩:=aa
  obtain ⟨bH,ks,acU⟩:=List.mem_map.1 (h.mem k' fp)
  have:e.1=k':=C0 (n5 e he) (by rw [←acU];exact n5 bH ks) vP
  rw [this];exact fp
 · -- an entry has come
  rw [List.mem_filter] at he
  obtain ⟨ud,r5⟩:=he
  have fh:=n5 e ud
  have acV:e.1∉seen:=fun kB=>by
   simp only [Bool.not_eq_true',List.any_eq_false] at r5
   exact r5 e.1 kB (tm fh)
  have acW:=o9 bi (by simp [j9])
  have il:kL P b3 b1 bi m es (seen++[e.1]):=.of acT ax (by simp) (by simp) (by simp [j9]) (by simp [j9])
  have lG:J xs b3:=nu xs w b3 _ h.j acW (fun r e=>by cases e;exact ⟨fZ,acM h.wM⟩)
  have fG:=ax e ud
  have Co:e.2.aL=e.2:=by generalize e.2=y at fG;cases y<;>simp [dA] at fG<;>rfl
  have acX:e.1.aL=e.1:=by generalize e.1=y at fh;cases y<;>simp only [fA,Bool.false_eq_true] at fh<;>rfl
  have acY:∀g,aU g (.bw [.bool true,e.1,e.2]) v:=by
   intro g
   obtain ⟨ws,rfl,kF⟩:=fR.BN
   cases kF with
   | cons _ _ u us R aa=>cases aa with
    | cons _ _ gF DZ al aY=>cases aY with
     | cons _ _ aqT acZ bn cw =>
      cases cw
      rw [Co] at bn
      exact .bw _ _ (.cons _ _ _ _ (R.zz rfl g) (.cons _ _ _ _ (.pure _ _ (aU.fA fh al)) (.cons _ _ _ _ (bn.zz fG g) .nil)))
  rw [bM]
  show wpListIn F n P j0 _ [x3] (a.put x2.dst _) b3
  rw [Ou]
  have j5:Rel P ot N (ou b3) _ (a.put (some 6) v) b3:=wL (N:=N) (a:=a.put (some 6) v) (e:=[(6,.bw [.bool true,e.1,e.2])]) (by simp [Act.put,h.size]) h.defers (by simp) (fun p ao=>by
   simp at ao;subst ao
   exact ⟨_,by rw [en _ _ _ _ h.size (by omega)];simp,acY _,fun _ _ _ h=>by simp at h⟩)
  refine ua ek bo (pn j5 ds rfl) fun v1 c2 bQ bf bu=>?_
  generalize h7:(a.put (some 6) v).put x3.dst v1=dR at bu
  have iL:dR.tmps[0]?=a.tmps[0]?:=by rw [←h7,mC v1 0 et.2,en _ _ _ _ h.size (by omega)];simp
  have Ov:dR.tmps[5]?=a.tmps[5]?:=by rw [←h7,mC v1 5 bK.2,en _ _ _ _ h.size (by omega)];simp
  clear h7
  refine wpListIn_nil ?_
  show (Code.seq _ _).wpIn F n P _ _ _
  obtain ⟨u,wP,wQ,_⟩:=bu.env 7 (.v (.bool true)) rfl
  have:=wQ.kt;subst this
  refine wpIn_seq (wpIn_cond_true (by simp [Act.eval,Array.getD_eq_getD_getElem?,wP]) (wpIn_skip ?_))
  show (Code.block _ _).wpIn F n P _ _ _
  refine wpIn_block (wpIn_seq (wpIn_region_list ?_))
  rw [zE]
  have lX:=wK bf
  have hN:=zC il ax lX
  have tI:J xs c2:=nu xs b3 c2 _ lG lX (fun r e=>by cases e)
  have ac0:=hN.rel bu.size bu.defers (Ov.trans h.it)
  simp only [nt,Bool.and_eq_true] at cY
  obtain ⟨⟨f0,f1⟩,⟨f2,f3⟩,f4⟩:=cY
  obtain ⟨bP,cF⟩:∃bP,gP es e.1=some bP:=acN fh ud rfl
  obtain ⟨zG,wR,aB,aI,dS,h1,wS⟩:=ME (s':=⟨[(5,.v (.ptr 1 0)),(8,.v (.bw [e.1,bP.aL]))],[.map m es,.iter (some 0) m (seen++[e.1])]⟩) ac0 f1 (by simp [au,bl,Env.get,cF,ae.put,c9,Env.ins])
  have ac1:mv.dst=some 8:=by simp only [b2,Bool.and_eq_true,beq_iff_eq] at aB;exact aB.1
  have ac2:zG=.bw [e.1,bP.aL]:=by
   simp only [ae.put,c9,Env.get] at aI
   simp [Env.ins] at aI
   exact aI
  subst ac2
  obtain ⟨k',ac3,_⟩:=C4 cF
  have eb:dA bP=true:=ax _ ac3
  have ac4:bP.aL=bP:=by cases bP<;>simp [dA] at eb<;>rfl
  rw [ac4] at dS
  have ac5:∀g,aU g (.bw [e.1,bP]) wR:=by
   intro g
   obtain ⟨ws,rfl,kF⟩:=dS.BN
   cases kF with
   | cons _ _ u us R aa=>cases aa with
    | cons _ _ gF DZ al aY =>
     cases aY
     exact .bw _ _ (.cons _ _ _ _ (.pure _ _ (aU.fA fh R)) (.cons _ _ _ _ (al.zz eb g) .nil))
  unfold wpListIn
  rw [if_pos (pw f0)]
  refine ⟨fun f _=>ek f,?_⟩
  rw [Oper.semAt_eq _ _ _ (px f0),wS]
  show wpListIn F n P ik _ (h2::k5) (dR.put mv.dst wR) c2
  rw [ac1]
  have rF:Rel P ot N (ou c2) _ (dR.put (some 8) wR) c2:=wL (N:=N) (a:=dR.put (some 8) wR) (e:=[(8,.bw [e.1,bP])]) (by simp [Act.put,bu.size]) bu.defers (by simp) (fun p ao=>by
   simp at ao;subst ao
   exact ⟨_,by rw [en _ _ _ _ bu.size (by omega)];simp,ac5 _,fun _ _ _ h=>by simp at h⟩)
  refine ua ek f2 (pn (s':=⟨[(8,.v (.bw [e.1,bP])),(9,.v e.1)],[]⟩) rF f3 (by simp [au,Env.get,ae.put,c9,Env.ins,acX])) fun D6 eY wT t1 t2=>?_
  generalize D7:(dR.put (some 8) wR).put h2.dst D6=r6 at t2
  have ac6:r6.tmps[0]?=a.tmps[0]?:=by rw [←D7,mC D6 0 ey.2.1,en _ _ _ _ bu.size (by omega)];simpa using iL
  have ac7:r6.tmps[5]?=a.tmps[5]?:=by rw [←D7,mC D6 5 eK.2.1,en _ _ _ _ bu.size (by omega)];simpa using Ov
  clear D7
  have Ow:=wK t1
  have BM:=zC hN ax Ow
  have ac8:J xs eY:=nu xs c2 eY _ tI Ow (fun r e=>by cases e)
  obtain ⟨iJ,ac9,ada,_⟩:=t2.env 9 (.v e.1) rfl
  have eL:∀g,aU g e.1 iJ:=fun g=>.pure _ _ (aU.fA fh ada)
  obtain ⟨s2,bD,ew,lN,p5,CL⟩:=ab e ud
  have vZ:Rel P ot N (ou eY) _ r6 eY:=wL (N:=N) (a:=r6) (e:=[(9,e.1)]) t2.size t2.defers (by simp) (fun p ao=>by
   simp at ao;subst ao
   exact ⟨iJ,ac9,eL _,acK fh⟩)
  rw [←List.append_nil k5]
  refine Om ek k5 pre f4 vZ bD fun aqU qF qG t3 t4 t5=>wpListIn_nil ?_
  show (Code.seq _ _).wpIn F n P _ qF qG
  have Ox:qF.tmps[0]?=a.tmps[0]?:=(t5 0 (fun o aE=>by have:=List.all_eq_true.1 ey.2.2 o aE;simpa using this)).trans ac6
  have adb:qF.tmps[5]?=a.tmps[5]?:=(t5 5 (fun o aE=>by have:=List.all_eq_true.1 eK.2.2 o aE;simpa using this)).trans ac7
  refine wpIn_seq (wpIn_region_list ?_)
  rw [zF]
  -- the call
  have ade:hP.dst=some 10:=by simp only [b2,Bool.and_eq_true,beq_iff_eq] at d0;exact d0.1
  have adf:gp.dst=some 12:=by simp only [b2,Bool.and_eq_true,beq_iff_eq] at d2;exact d2.1
  unfold wpListIn
  rw [if_pos (pw gu)]
  refine ⟨fun f _=>ek f,?_⟩
  rw [Oper.semAt_eq _ _ _ (px gu),acG iI (Ox.trans h.Ot)]
  show wpListIn F n P ka _ [eA,gp,gq] (qF.put hP.dst _) qG
  rw [ade]
  have t6:=t4.forget (v:=.func (.yield l) #[] #[]) ew (by omega)
  refine ua ek an (pn t6 cT p5) fun zH zI aqV cr cX=>?_
  generalize zJ:(qF.put (some 10) (.func (.yield l) #[] #[])).put eA.dst zH=r7 at cX
  have adg:r7.tmps[0]?=a.tmps[0]?:=by rw [←zJ,mC zH 0 hi.2.1,en _ _ _ _ t4.size (by omega)];simpa using Ox
  have adh:r7.tmps[5]?=a.tmps[5]?:=by rw [←zJ,mC zH 5 cS.2.1,en _ _ _ _ t4.size (by omega)];simpa using adb
  have adi:r7.tmps[10]?=some (.func (.yield l) #[] #[]):=by rw [←zJ,mC zH 10 eX,en _ _ _ _ t4.size (by omega)];simp
  clear zJ
  have Oy:=wK (t3.trans cr)
  have adj:=zC BM ax Oy
  have adk:J xs zI:=nu xs eY zI _ ac8 Oy (fun r e=>by cases e)
  obtain ⟨ue,adl,adm,_⟩:=cX.env 11 (.v e.1) CL
  have Oz:∀g,aU g e.1 ue:=fun g=>.pure _ _ (aU.fA fh adm)
  have n8:(seen++[e.1]).Nodup:=by
   rw [List.nodup_append]
   exact ⟨h.nodup,by simp,fun a aZ b ah=>by simp at ah;subst ah;rintro rfl;exact acV aZ⟩
  have lL:∀k∈seen++[e.1],k∈es.map (·.1):=fun k fp=>by
   rcases List.mem_append.1 fp with fp | fp
   ·exact h.mem k fp
   ·simp at fp;subst fp;exact List.mem_map.2 ⟨e,ud,rfl⟩
  have hlen:xs.length<es.length:=by
   have R:=List.Nodup.length_le_of_subset n8 (fun k fp=>lL k fp)
   have aa:=h.iq.len
   simp at R;omega
  obtain ⟨jk,D8,as,eG,aT,je⟩:=wN xs ue zI adk (ao e ud ue (Oz _)) hlen
  unfold wpListIn
  rw [if_pos (pw ar)]
  refine ⟨fun f _=>ek f,?_⟩
  rw [Oper.semAt_eq _ _ _ (px ar),acF cg adi adl aT]
  refine ⟨a1,je.mono ?_⟩
  have key:∀(bH:Ending) (cM:World) (b:Bool),bH=.returned (.bool b)→(b=true→J (xs++[ue]) cM∧KeepsWalks zI cM)→(b=false→Jx (xs++[ue]) cM) →
    wpListIn F n P ka (Exit.then (fun bO w'=>(Code.cond (.tmp 13) .ret .skip).wpIn F n P (Exit.inBlock e5 (Exit.then lW (Exit.inBlock iO Q))) bO w') (Exit.inBlock e5 (Exit.then lW (Exit.inBlock iO Q)))) [gq] (r7.put gp.dst (.bool b)) cM:=by
   rintro _ cM b rfl aF aP
   rw [adf]
   have adn:Rel P ot N (ou cM) _ (r7.put (some 12) (.bool b)) cM:=wL (N:=N) (a:=r7.put (some 12) (.bool b)) (e:=[(12,.bool b)]) (by simp [Act.put,cX.size]) cX.defers (by simp) (fun p ao=>by
    simp at ao;subst ao
    exact ⟨_,by rw [en _ _ _ _ cX.size (by omega)];simp,.pure _ _ (.bool b),ku b⟩)
   refine ua ek aO (pn (s':=⟨[(12,.v (.bool b)),(13,.v (.bool (!b)))],[]⟩) adn fC (by simp [au,bl,Env.get,ae.put,c9,Env.ins])) fun D9 zK aqW x1 x2=>?_
   generalize Ea:(r7.put (some 12) (.bool b)).put gq.dst D9=uf at x2
   have ado:uf.tmps[0]?=a.tmps[0]?:=by rw [←Ea,mC D9 0 hi.2.2.2,en _ _ _ _ cX.size (by omega)];simpa using adg
   have adp:uf.tmps[5]?=a.tmps[5]?:=by rw [←Ea,mC D9 5 cS.2.2.2,en _ _ _ _ cX.size (by omega)];simpa using adh
   clear Ea
   refine wpListIn_nil ?_
   show (Code.cond _ _ _).wpIn F n P _ uf zK
   have Eb:=wK x1
   obtain ⟨u,wP,wQ,_⟩:=x2.env 13 (.v (.bool (!b))) rfl
   have:=wQ.kt;subst this
   have cD:uf.eval (.tmp 13)=.bool (!b):=by simp [Act.eval,Array.getD_eq_getD_getElem?,wP]
   cases b with
   | true =>
    obtain ⟨nc,fp⟩:=aF rfl
    refine wpIn_cond_false cD (wpIn_skip ?_)
    show lW uf zK
    exact g7 _ _ e.1 ue ⟨x2.size,x2.defers,ado.trans h.Ot,adp.trans h.it,zC (adj.keeps ax fp) ax Eb,h.iq.append (.cons _ _ _ _ (Oz _) .nil),n8,lL,nu _ cM zK _ nc Eb (fun r e=>by cases e)⟩
   | false =>
    refine wpIn_cond_true cD (wpIn_ret ?_)
    show Q .ret uf zK
    exact acQ _ _ _ x2.defers (wO _ _ _ (aP rfl) Eb)
  rintro bH cM (⟨rfl,R,aa⟩ | ⟨rfl,R⟩)
  ·exact key _ cM true rfl (fun _=>⟨R,aa⟩) (fun h=>by cases h)
  ·exact key _ cM false rfl (fun h=>by cases h) (fun _=>R)
theorem adq {l:List Oper} (h:zA P N l=true):∃fq x1,l=[fq,x1]:=by
 unfold zA at h
 split at h
 ·exact ⟨_,_,rfl⟩
 ·cases h
theorem adr {l:List Oper} (h:wI P N l=true):∃fq x1,l=[fq,x1]:=by
 unfold wI at h
 split at h
 ·exact ⟨_,_,rfl⟩
 ·cases h
theorem ads {fU:bR} {l:List Oper} (h:wJ P N fU l=true):∃fq x1 x2 x3,l=[fq,x1,x2,x3]:=by
 unfold wJ at h
 split at h
 ·exact ⟨_,_,_,_,rfl⟩
 ·cases h
theorem adt {a b:bR} {pre:List bR}:∀{l:List Oper},nt P N l (a::b::pre)=true→∃fq x1 k5,l=fq::x1::k5
 | [],h=>by simp [nt] at h
 | [_],h=>by simp [nt] at h
 | x::y::r,_=>⟨x,y,r,rfl⟩
theorem adu (ek:∀f,F.fn f) (zk:F.round=none) (a1:F.depth.isSome=true→1≤n) {fk:Nat} {fn:Func} {c:Code} {pre:List bR} {fU:bR} (aP:P.funcs[fk]?=some fn) (ah:fn.body=some c)
  (pj:fn.results=#[]) (nm:r4 P fn.ntmps pre fU c=true) {id b1 m hH l:Nat} {es:List (AV×AV)} (ax:∀e∈es,dA e.2=true) (ab:∀e∈es,lU pre fU e.1)
  (hm:iV P g w id b1 m es) (wU:w.cell? ⟨hH,0,none⟩=some (.map (some b1))) {J Jx:List Value→World→Prop} (nu:AbidesFrom w.heap.size J) (wO:∀pre W cM,Jx pre W→W.grownBy cM none→Jx pre cM)
  {p:Value→Prop} (ao:∀e∈es,∀v,aU np e.1 v→p v) (wN:∀pre x lV,J pre lV→p x→pre.length<es.length→YieldAt F (n - 1) P l #[x] lV fun e cM=>(e=.returned (.bool true)∧J (pre++[x]) cM∧KeepsWalks lV cM)∨(e=.returned (.bool false)∧Jx (pre++[x]) cM))
  (a0:J [] w):CallsIn F n P fk #[.func (.yield l) #[] #[],ptrTo hH 0] w fun e cM=>(∃v,e=.returned v) ∧
   ((∃xs,(∃az,az.Perm (es.map (·.1))∧bW np az xs)∧J xs cM)∨(∃pre,True∧Jx pre cM)):=by
 unfold r4 at nm
 split at nm
 case h_2=>cases nm
 rename_i i0 uc iO i1 j0 t7 Oo e5 i2 ik i3 ka t13
 simp only [Bool.and_eq_true,beq_iff_eq,decide_eq_true_eq] at nm
 obtain ⟨⟨⟨⟨⟨⟨⟨⟨⟨⟨⟨⟨⟨⟨⟨rfl,rfl⟩,rfl⟩,v9⟩,gT⟩,cf⟩,cY⟩,eS⟩,rZ⟩,et⟩,ey⟩,hi⟩,bK⟩,eK⟩,cS⟩,eX⟩:=nm
 obtain ⟨fq,x1,OA⟩:=adq gT
 obtain ⟨x2,x3,zD⟩:=adr cf
 obtain ⟨mv,h2,k5,zE⟩:=adt cY
 obtain ⟨hP,eA,gp,gq,zF⟩:=ads eS
 rw [OA] at gT rZ
 rw [zD] at cf et bK
 rw [zE] at cY ey eK
 rw [zF] at eS hi cS eX
 simp only [zA,Bool.and_eq_true] at gT
 obtain ⟨⟨⟨nv,c3⟩,aG⟩,bN⟩:=gT
 refine callsIn_of_wp aP ah (ek _) ?_ zk
 have ea:(#[Value.func (.yield l) #[] #[],ptrTo hH 0]++Array.replicate (fn.ntmps - 2) undef).size=fn.ntmps:=by simp;omega
 show Code.wpIn _ _ _ _ _ { tmps:=#[Value.func (.yield l) #[] #[],ptrTo hH 0]++Array.replicate (fn.ntmps - 2) undef,defers:=[] } w
 generalize cL:(#[Value.func (.yield l) #[] #[],ptrTo hH 0]++Array.replicate (fn.ntmps - 2) undef)=T at ea
 have zL:T[0]?=some (.func (.yield l) #[] #[]):=by rw [←cL];simp [Array.getElem?_append]
 have tM:T[1]?=some (ptrTo hH 0):=by rw [←cL];simp [Array.getElem?_append]
 clear cL
 refine wpIn_seq (wpIn_region_list ?_)
 rw [OA]
 have adv:fq.dst=some 4:=by simp only [p8,b2,Bool.and_eq_true,beq_iff_eq] at c3;exact c3.1.1
 have adw:(execOp ({ tmps:=T,defers:=[] }:Act).eval fq).run P w=.ok (.value (.map (some b1))) w:=by
  simp only [p8,Bool.and_eq_true] at c3
  obtain ⟨_,c3⟩:=c3
  split at c3
  ·rename_i t a9 aD
   simp only [Bool.and_eq_true] at c3
   obtain ⟨⟨ai,_⟩,ab⟩:=c3
   have k3:a9=.tmp 1:=by unfold cA at ai;split at ai<;>simp_all
   subst k3
   have cD:({ tmps:=T,defers:=[] }:Act).eval (.tmp 1)=ptrTo hH 0:=by simp [Act.eval,Array.getD_eq_getD_getElem?,tM]
   simp only [execOp,aD,Sem.run_bind,cD]
   split at ab
   ·simp at ab
   ·simp at ab
   ·rename_i kv oZ o0 g4
    rw [yk g4 ⟨fun cu e=>oZ cu e,fun n e bH=>o0 n e bH⟩ wU];rfl
   ·cases ab
  ·cases c3
 unfold wpListIn
 rw [if_pos (pw nv)]
 refine ⟨fun f _=>ek f,?_⟩
 rw [Oper.semAt_eq _ _ _ (px nv),adw]
 show wpListIn F n P uc _ [x1] (Act.put { tmps:=T,defers:=[] } fq.dst _) w
 rw [adv]
 have en:∀(a:Act) (d t:Nat) (v:Value),a.tmps.size=fn.ntmps→d<fn.ntmps→(a.put (some d) v).tmps[t]?=if t=d then some v else a.tmps[t]?:=fun a d t v aZ aw=>m1 (by rw [aZ];exact aw) v t
 have je:=acE (N:=fn.ntmps) (a:=Act.put { tmps:=T,defers:=[] } (some 4) (.map (some b1))) (t:=4) hm ax (by simp [Act.put,ea]) rfl (by rw [en _ _ _ _ ea (by omega)];simp)
 generalize pz:Act.put { tmps:=T,defers:=[] } (some 4) (.map (some b1))=de at je
 have adx:de.tmps[0]?=some (.func (.yield l) #[] #[]):=by rw [←pz,en _ _ _ _ ea (by omega)];simpa using zL
 have OB:de.tmps[4]?=some (.map (some b1)):=by rw [←pz,en _ _ _ _ ea (by omega)];simp
 clear pz
 have OC:x1.dst=some 5:=by simp only [hA,vS,b2,Bool.and_eq_true,beq_iff_eq] at bN;exact bN.1.1
 have mu:(execOp de.eval x1).run P w=.ok (.value (ptrTo w.heap.size 0)) (w.alloc (.mapIter (some b1) m #[] m)):=by
  simp only [hA,vS,Bool.and_eq_true] at bN
  obtain ⟨_,bN⟩:=bN
  split at bN
  ·rename_i t a9 aD
   simp only [Bool.and_eq_true] at bN
   obtain ⟨ai,ab⟩:=bN
   have k3:a9=.tmp 4:=by unfold cA at ai;split at ai<;>simp_all
   subst k3
   have cD:de.eval (.tmp 4)=.map (some b1):=by simp [Act.eval,Array.getD_eq_getD_getElem?,OB]
   obtain ⟨arr,aG,_⟩:=hm
   split at ab
   ·rename_i db fi hu
    simp only [execOp,aD,cD,Sem.run_bind,run_range_map hu aG,Result.andThen_ok,Sem.run_pure]
   ·cases ab
  ·cases bN
 obtain ⟨Ec,b3,bX,aB,aI,dS⟩:=pn (s':=⟨[(4,.v (.map 0)),(5,.v (.ptr 1 0))],[.map m es,.iter (some 0) m []]⟩) je bN (by simp [au,bl,Env.get,ae.put,c9,Env.ins])
 have ady:Ec=ptrTo w.heap.size 0∧b3=w.alloc (.mapIter (some b1) m #[] m):=by
  rcases aB with aB | ⟨aB,_⟩
  ·rw [mu] at aB;simp only [Result.ok.injEq,Next.value.injEq] at aB;exact ⟨aB.1.symm,aB.2.symm⟩
  ·rw [mu] at aB;simp only [Result.ok.injEq] at aB;exact absurd aB.1 (by simp)
 obtain ⟨rfl,rfl⟩:=ady
 unfold wpListIn
 rw [if_pos (pw aG)]
 refine ⟨fun f _=>ek f,?_⟩
 rw [Oper.semAt_eq _ _ _ (px aG),mu]
 rw [Oper.uponIn_value]
 refine wpListIn_nil ?_
 show (Code.block _ _).wpIn F n P _ _ _
 generalize h7:de.put x1.dst (ptrTo w.heap.size 0)=dR at dS
 have adz:¬x1.dst=some 0:=by simp only [jN,List.all_cons,Bool.and_eq_true,bne_iff_ne] at rZ;exact rZ.2.1
 have adA:dR.tmps[0]?=some (.func (.yield l) #[] #[]):=by rw [←h7,mC _ 0 adz];exact adx
 have adB:dR.tmps[4]?=some (.map (some b1)):=by rw [←h7,mC _ 4 (by rw [OC];simp)];exact OB
 have OD:dR.tmps[5]?=some (ptrTo w.heap.size 0):=by rw [←h7,OC,en _ _ _ _ je.size (by omega)];simp
 clear h7
 obtain ⟨kM,OE,adC,_⟩:=dS.env 4 (.v (.map 0)) rfl
 obtain ⟨pd,adD,rfl⟩:=adC.oX
 obtain ⟨aqX,OF,adE,_⟩:=dS.env 5 (.v (.ptr 1 0)) rfl
 obtain ⟨bi,adF,rfl⟩:=adE.m2
 have mq:pd=b1:=by rw [adB] at OE;simpa using OE.symm
 have adG:bi=w.heap.size:=by rw [OD] at OF;simpa [ptrTo] using OF.symm
 subst mq adG
 have o9:w.grownBy (w.alloc (.mapIter (some pd) m #[] m)) none:=World.grownBy_alloc _ _ _
 have il:kL P (w.alloc (.mapIter (some pd) m #[] m)) pd w.heap.size m es []:=.of dS ax (by simp) (by simp) adD adF
 have CM:zB P fn.ntmps l pd w.heap.size m es J dR (w.alloc (.mapIter (some pd) m #[] m)) [] [] :=
  ⟨dS.size,dS.defers,adA,OD,il,.nil,by simp,by simp,nu [] w _ none a0 o9 (fun r e=>by cases e)⟩
 refine wpIn_block (wpIn_loop (fun a w'=>∃seen xs,zB P fn.ntmps l pd w.heap.size m es J a w' seen xs) (fun _ w'=>es.length - D2 w' w.heap.size) ⟨[],[],CM⟩ ?_)
 rintro r2 eY ⟨seen,xs,al⟩
 refine acO (B:=w.heap.size) ek a1 ax ab v9 (Nat.le_refl _) zD zE zF cf cY eS et ey hi bK eK cS eX nu ao wN al ?_ ?_ wO _ ?_
 ·intro bO w' aw ao a6
  exact ⟨aw,.tuple #[],by simp [results,pj],⟨_,rfl⟩,.inl ⟨xs,⟨seen,ao,al.iq⟩,a6⟩⟩
 ·intro bO w' pre aw ai
  exact ⟨aw,.tuple #[],by simp [results,pj],⟨_,rfl⟩,.inr ⟨pre,trivial,ai⟩⟩
 ·intro bO w' k x cC
  refine ⟨⟨_,_,cC⟩,?_⟩
  have R:=List.Nodup.length_le_of_subset cC.nodup (fun k ab=>cC.mem k ab)
  rw [cC.wM.On,al.wM.On]
  simp at R ⊢;omega
end
end
end AM
