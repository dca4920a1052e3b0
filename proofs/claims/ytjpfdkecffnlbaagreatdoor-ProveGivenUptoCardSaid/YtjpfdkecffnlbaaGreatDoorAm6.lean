/- An abstract machine for the program of the seat, and what of the given program it does, part 7 of 17. Conditions: none. -/
import Derived.Test.YtjpfdkecffnlbaaGreatDoorAm5
import Derived.Maps.RangeRun
set_option linter.unusedVariables false
set_option linter.unusedSimpArgs false
/-! The simulation of ranges over maps. -/
namespace AM
open Go Go.Maps Go.ChangeMaps
section
variable {P:Program} {gl:aR} {N:Nat} {g g':a5} {s s':ae} {a:Act} {w w':World} {o:Oper} {γ dq:dp}
theorem ZS {c d:AV} {u:Value} (af:(match c with | .str _ | .int _ _ | .bool _=>true | _=>false)=true) (aw:(match d with | .str _ | .int _ _ | .bool _=>true | _=>false)=true) (R:cp γ c u) (aa:cp dq d u):c=d:=by
 cases c<;>simp at af<;>cases d<;>simp at aw<;>cases R<;>cases aa<;>rfl
theorem MA:∀{us:List Value} {xs ys:List AV},(xs.all fun | .str _ | .int _ _ | .bool _=>true | _=>false)=true→(ys.all fun | .str _ | .int _ _ | .bool _=>true | _=>false)=true→e3 γ xs us→e3 dq ys us→xs=ys
 | [],_,_,_,_,R,aa=>by cases R;cases aa;rfl
 | u::us,xs,ys,ai,aT,R,aa=>by
  cases R with
  | cons c cs _ _ _ aG aJ =>
   cases aa with
   | cons d fB _ _ _ an ar =>
    rw [List.all_cons,Bool.and_eq_true] at ai aT
    rw [ZS ai.1 aT.1 aG an,MA ai.2 aT.2 aJ ar]
theorem MB {x y:AV} {v:Value} (ai:fA x=true) (aT:fA y=true) (R:cp γ x v) (aa:cp dq y v):x=y:=by
 cases x<;>simp only [fA,Bool.false_eq_true] at ai<;>cases y<;>simp only [fA,Bool.false_eq_true] at aT
 case agg.agg cs fB =>
  cases R with
  | agg _ us p=>
   generalize ax:Value.agg us.toArray=v at aa
   cases aa with
   | agg _ vs q =>
    have:us=vs:=by simpa using ax
    subst this
    rw [MA ai aT p q]
 all_goals first | (cases R;cases aa;rfl) | (cases R;cases aa)
theorem MC:∀{cs:List AV},(cs.all fun | .str _ | .int _ _ | .bool _=>true | _=>false)=true→eqs cs cs=some true
 | [],_=>rfl
 | c::cs,h=>by
  rw [List.all_cons,Bool.and_eq_true] at h
  have:=MC h.2
  cases c<;>simp at h<;>simp [eqs,ml,this]
theorem MD:∀{cs fB:List AV},eqs cs fB=some true→cs=fB
 | [],[],_=>rfl
 | [],_::_,h=>by simp [eqs] at h
 | _::_,[],h=>by simp [eqs] at h
 | c::cs,d::fB,h=>by
  simp only [eqs] at h
  split at h
  ·rename_i p q ao bL
   simp only [Option.some.injEq,Bool.and_eq_true] at h
   rw [h.2] at bL
   have:=MD bL
   subst this
   rw [h.1] at ao
   have:c=d:=by
    cases c<;>cases d<;>simp [ml] at ao
    ·rw [ao]
    ·rw [ao.1,ao.2]
    ·rw [ao]
   rw [this]
  ·cases h
theorem C0 {x y:AV} (ai:fA x=true) (aT:fA y=true) (h:cI x y=true):x=y:=by
 cases x<;>simp only [fA,Bool.false_eq_true] at ai<;>cases y<;>simp only [fA,Bool.false_eq_true] at aT<;>simp only [cI,Bool.false_eq_true] at h
 ·simp only [Bool.and_eq_true,beq_iff_eq] at h;rw [h.1,h.2]
 ·simp only [beq_iff_eq] at h;rw [h]
 ·simp only [beq_iff_eq] at h;rw [MD h]
theorem tm {x:AV} (h:fA x=true):cI x x=true:=by
 cases x<;>simp only [fA,Bool.false_eq_true] at h
 ·simp [cI]
 ·simp [cI]
 ·simp only [cI,MC h];rfl
theorem aU.fA {x:AV} {v:Value} (ai:AM.fA x=true) (h:aU g x v):cp γ x v:=by
 cases x<;>simp only [AM.fA,Bool.false_eq_true] at ai
 ·have:=h.hg;subst this;exact .int _ _
 ·obtain ⟨rfl,aN⟩:=h.jC;exact .str _ aN
 ·rename_i cs
  obtain ⟨ws,rfl,R,aa⟩:=h.jD
  refine .agg _ _ ?_
  clear h
  induction ws generalizing cs with
  | nil=>cases R;exact .nil
  | cons w ws ih =>
   cases R with
   | cons c cs _ _ an ar =>
    rw [List.all_cons,Bool.and_eq_true] at ai
    refine .cons _ _ _ _ (aa w (by simp)) ?_ (ih cs ai.2 ar (fun x ai=>aa x (by simp [ai])))
    cases c<;>simp at ai
    ·have:=an.kt;subst this;exact .bool _
    ·have:=an.hg;subst this;exact .int _ _
    ·obtain ⟨rfl,h⟩:=an.jC;exact .str _ h
def vS (P:Program) (N:Nat) (o:Oper) (d:Nat) (m:aq):Bool:=b2 N o d &&
 (match o.op with | .range t gH=>cA gH m&&(match P.underlying t with | some (.map _ _)=>true | _=>false) | _=>false)
theorem run_range_map {t db fi:TypeId} {b n:Nat} {arr:Array MapEntry} (hu:P.underlying t=some (.map db fi)) (ah:w.heap[b]?=some (.map arr n)) :
  (Instr.range t (.map (some b))).run P w=.ok (ptrTo w.heap.size 0) (w.alloc (.mapIter (some b) n #[] n)):=by
 simp only [Instr.range,Sem.run_bind,run_underlying hu,Result.andThen_ok,MapKept.run_getObj_map ah,Sem.run_pure,newObj,Sem.run,ptrTo]
 rfl
theorem ZT {t db fi:TypeId} (hu:P.underlying t=some (.map db fi)):(Instr.range t (.map none)).run P w=.ok (ptrTo w.heap.size 0) (w.alloc (.mapIter none 0 #[] 0)):=by
 simp only [Instr.range,Sem.run_bind,run_underlying hu,Result.andThen_ok,Sem.run_pure,newObj,Sem.run,ptrTo]
 rfl
theorem ZU {d:Nat} {m:aq} (h:Rel P gl N g s a w) (af:vS P N o d m=true) (he:au gl s (.kX d m)=some s'):cJ P gl N o g a w s':=by
 simp only [vS,Bool.and_eq_true] at af
 obtain ⟨aw,aD⟩:=af
 split at aD
 ·rename_i t gH aE
  simp only [Bool.and_eq_true] at aD
  obtain ⟨hm,aD⟩:=aD
  split at aD
  ·rename_i db fi hu
   simp only [b2,Bool.and_eq_true,beq_iff_eq,decide_eq_true_eq] at aw
   simp only [au] at he
   split at he
   ·rename_i id aB
    split at he
    ·rename_i n es bG
     obtain ⟨b,bf,arr,bu,b5,⟨b9,cy,eW,eF⟩,lJ,pa,qg,az,vT⟩:=h.heap _ _ bG
     obtain ⟨bE,an,ar⟩:=(ca h hm aB).oX
     rw [bf] at an;simp at an;subst an
     have A:hk P g w id b n es az arr b9:=⟨bu,b5,cy,eW,eF,lJ,pa,qg,vT⟩
     have bz:b<w.heap.size:=h.own b (by rw [b5];simp)
     obtain ⟨g',s1,s2,lN⟩:=h.CE (.mapIter (some b) n #[] n) (.iter (some id) n []) (fun g' R aa al=>by
      have ZV:g'.bd b=.bt id:=by rw [R];simp [a5.gE,show b≠w.heap.size by omega,b5]
      have k2:=h.er id b bf
      refine ⟨w.heap.size,_,al,heap_alloc_new w _,by rw [R];simp [a5.gE],aa.b4 _ _ bf,ZV,rfl,rfl,?_,arr,n,by rw [heap_alloc_old w _ (h:=bz)];exact bu,Nat.le_refl _⟩
      have ZW:∀x∈List.zipWith (fun (e:AV×AV) (m:MapEntry)=>(e.1,m.born)) b9 arr.toList,∃(i:Nat) (e:AV×AV) (m:MapEntry),b9[i]?=some e∧arr.toList[i]?=some m∧x=(e.1,m.born):=by
       intro x ai
       obtain ⟨i,av,ZX⟩:=List.getElem_of_mem ai
       have iE:=av
       simp only [List.length_zipWith] at iE
       refine ⟨i,b9[i]'(by omega),arr.toList[i]'(by omega),by simp [show i<b9.length by omega],List.getElem?_eq_getElem _,?_⟩
       rw [←ZX];simp
      refine ⟨List.zipWith (fun (e:AV×AV) (m:MapEntry)=>(e.1,m.born)) b9 arr.toList,?_,?_,by simp,by simp,?_⟩
      ·rw [List.pairwise_iff_getElem]
       intro i j av a6 gn
       simp only [List.length_zipWith] at av a6
       simp only [List.getElem_zipWith]
       refine ⟨?_,?_⟩
       ·have ck:b9.Pairwise fun x y=>x.1≠y.1:=(cy.symm.pairwise_iff (fun {x y} (h:x.1≠y.1)=>h.symm)).1 A.ne
        have a1:=List.pairwise_iff_getElem.1 ck i j (by omega) (by omega) gn
        cases bc:cI b9[i].1 b9[j].1 with
        | false=>rfl
        | true =>
         have C1:=cy.mem_iff.1 (List.getElem_mem (show i<b9.length by omega))
         have C2:=cy.mem_iff.1 (List.getElem_mem (show j<b9.length by omega))
         obtain ⟨_,bK,_,_,bN⟩:=A.pc C1
         obtain ⟨_,cg,_,_,cb⟩:=A.pc C2
         exact absurd ((vO (vT _ C1) (vT _ C2) (aU.key (γ:=g.γ) (vT _ C1) bN.1) (aU.key (γ:=g.γ) (vT _ C2) cb.1)).1 bc) a1
       ·have:=List.pairwise_iff_getElem.1 lJ i j (by omega) (by omega) gn
        omega
      ·intro x ai
       obtain ⟨i,e,m,aY,bn,rfl⟩:=ZW x ai
       exact ⟨pa m (List.mem_of_getElem? bn),(eF i e m aY bn).2.1⟩
      ·intro qk C3 m hN
       rw [heap_alloc_old w _ (h:=bz),bu] at C3
       simp at C3;subst C3
       obtain ⟨i,e,aY,bn,cw,dr⟩:=A.other hN
       refine ⟨e.1,?_,aU.fA dr.2.1 dr.1⟩
       have fH:=(List.getElem?_eq_some_iff.1 aY).1
       have kx:=(List.getElem?_eq_some_iff.1 bn).1
       refine List.mem_of_getElem? (i:=i) ?_
       rw [List.getElem?_zipWith,aY,bn])
     refine ⟨ptrTo w.heap.size 0,_,g',.inl ?_,s1,?_⟩
     ·simp only [execOp,aE,ar,Sem.run_bind,run_range_map hu bu,Result.andThen_ok,Sem.run_pure]
     ·rw [aw.1]
      exact s2.put he aw.2 (.ptr _ 0 _ lN) (o1 _ _).fo
    ·cases he
   ·rename_i aB
    have q:=(ca h hm aB).BP
    obtain ⟨g',s1,s2,lN⟩:=h.CE (.mapIter none 0 #[] 0) (.iter none 0 []) (fun g' R aa al=>⟨w.heap.size,_,al,heap_alloc_new w _,by rw [R];simp [a5.gE],trivial⟩)
    refine ⟨ptrTo w.heap.size 0,_,g',.inl ?_,s1,?_⟩
    ·simp only [execOp,aE,q,Sem.run_bind,ZT hu,Result.andThen_ok,Sem.run_pure]
    ·rw [aw.1]
     exact s2.put he aw.2 (.ptr _ 0 _ lN) (o1 _ _).fo
   ·cases he
  ·cases aD
 ·cases aD
theorem C4 {k v:AV}:∀{es:List (AV×AV)},gP es k=some v→∃k',(k',v)∈es∧cI k k'=true
 | [],h=>by simp [gP] at h
 | (k',bP)::r,h=>by
  simp only [gP] at h
  split at h
  ·rename_i ab;simp at h;subst h;exact ⟨k',by simp,ab⟩
  ·obtain ⟨cb,R,aa⟩:=C4 h;exact ⟨cb,by simp [R],aa⟩
def yL (N:Nat) (o:Oper) (d:Nat) (it:aq):Bool:=b2 N o d&&(match o.op with | .next mr false=>cA mr it | _=>false)
def yM (N:Nat) (o:Oper) (d:Nat) (it:aq):Bool:=b2 N o d&&(match o.op with | .entry mr=>cA mr it | _=>false)
theorem ME {d:Nat} {it:aq} (h:Rel P gl N g s a w) (af:yM N o d it=true) (he:au gl s (.iU d it)=some s') :
  ∃x v,b2 N o d=true∧s.put d x=some s'∧aU g x v∧cc x∧(execOp a.eval o).run P w=.ok (.value v) w:=by
 simp only [yM,Bool.and_eq_true] at af
 obtain ⟨aw,aD⟩:=af
 split at aD
 ·rename_i mr aE
  simp only [au] at he
  split at he
  ·rename_i id aB
   split at he
   ·rename_i a7 since seen bG
    split at he
    ·rename_i n es k mZ C5
     split at he
     ·rename_i a1
      subst a1
      obtain ⟨v,aK,he⟩:=bind_some he
      obtain ⟨r,bt,aG,aJ,bo,cd⟩:=h.heap _ _ bG
      obtain ⟨bE,t1,t2⟩:=(ca h aD aB).m2
      rw [aG] at t1;simp at t1;subst t1
      obtain ⟨MF,bK,arr',cg,cS,⟨b9,eC,eK,iY⟩,iG,hv,kD,az,C6⟩:=h.heap _ _ mZ
      have A:hk P g w a7 MF n es az arr' b9:=⟨cg,cS,eC,eK,iY,iG,hv,kD,C6⟩
      cases bt<;>simp only [kY] at cd
      rename_i mp iL eO last
      cases mp with
      | none=>exact cd.elim
      | some b1 =>
       obtain ⟨cf,cY,rfl,rfl,iM,_⟩:=cd
       rw [bK] at cf;simp at cf;subst cf
       obtain ⟨L,cT,cn,fC,nh,ql⟩:=iM
       -- the last of what was seen
       have ck:seen≠[]:=by rintro rfl;simp at C5
       have hlen:0<seen.length:=List.length_pos_iff.2 ck
       have vL:seen[seen.length - 1]?=some k:=by rw [List.getLast?_eq_getElem?] at C5;exact C5
       have ZY:∃bI,eO.toList[seen.length - 1]?=some bI:=by
        have:seen.length - 1<eO.toList.length:=by omega
        exact ⟨_,List.getElem?_eq_getElem this⟩
       obtain ⟨bI,vU⟩:=ZY
       have MG:=nh _ _ _ vL vU
       -- the entry at that key
       have kB:=C4 aK
       obtain ⟨k',fh,ga⟩:=kB
       obtain ⟨i,m,fH,kx,aA⟩:=A.pc fh
       obtain ⟨cb,lO,C7⟩:=ql _ cg m (List.mem_of_getElem? kx)
       have ni:cb=k':=MB (cn _ lO).2 aA.2.1 C7 (aU.fA (γ:=fun _ _=>none) aA.2.1 aA.1)
       subst ni
       -- one pair of the list
       have ZZ:(k,bI)=(cb,m.born):=by
        obtain ⟨i1,fH,aB⟩:=List.getElem_of_mem MG
        obtain ⟨i2,kx,aI⟩:=List.getElem_of_mem lO
        rcases Nat.lt_trichotomy i1 i2 with bz | rfl | bz
        ·have:=(List.pairwise_iff_getElem.1 cT i1 i2 fH kx bz).1
         rw [aB,aI] at this;simp only at this;rw [ga] at this;cases this
        ·rw [←aB,←aI]
        ·have:=(List.pairwise_iff_getElem.1 cT i2 i1 kx fH bz).1
         rw [aB,aI] at this;simp only at this
         have dS:k=cb:=C0 (cn _ MG).2 (cn _ lO).2 ga
         subst dS
         have h1:cI k k=true:=ga
         rw [h1] at this;cases this
       obtain ⟨rfl,rfl⟩:=Prod.mk.inj ZZ
       have Z0:eO=(eO.pop).push m.born:=by
        apply Array.ext'
        simp only [Array.toList_push,Array.toList_pop]
        have g5:eO.toList≠[]:=by
         intro e;have hM:=hlen;rw [fC,e] at hM;simp at hM
        rw [fC,←List.getLast?_eq_getElem?] at vU
        rw [List.getLast?_eq_some_getLast g5] at vU
        simp only [Option.some.injEq] at vU
        rw [←vU,List.dropLast_concat_getLast g5]
       refine ⟨_,_,aw,he,.bw _ [m.key,m.val] (.cons _ _ _ _ aA.1 (.cons _ _ _ _ aA.2.2.1.aL .nil)),(fun _ _ _ h=>by simp at h),?_⟩
       rw [Z0] at aJ
       have n8:(arr'.toList.map (·.born)).Nodup:=by
        rw [List.Nodup,List.pairwise_map]
        exact iG.imp fun h=>by omega
       have:=run_entry_at (P:=P) w r MF _ _ arr' _ m aJ cg (List.mem_of_getElem? kx) n8
       simp only [execOp,aE,t2,ptrTo,Sem.run_bind,this,Result.andThen_ok,Sem.run_pure]
     ·cases he
    ·cases he
   ·cases he
  ·cases he
 ·cases aD
theorem Z1 {d:Nat} {it:aq} (h:Rel P gl N g s a w) (af:yM N o d it=true) (he:au gl s (.iU d it)=some s'):cJ P gl N o g a w s':=by
 obtain ⟨x,v,an,ar,aO,bD,ew⟩:=ME h af he
 exact .value h an ar ew aO bD
theorem MH {mr:Operand} {it:aq} {id since:Nat} {MI:Option Nat} {MJ:List AV} {es:List (AV×AV)} (h:Rel P gl N g s a w) (aE:o.op=.next mr false) (kE:cA mr it=true)
  {x:AV} (aB:bl gl s.env it=some x) (g6:sS s.heap x=some (id,MI,since,MJ,es)) :
  (es=[]∧(execOp a.eval o).run P w=.ok (.value (.tuple #[.bool false])) w) ∨
  ∃e∈es,∃w' v,(execOp a.eval o).run P w=.ok (.value v) w'∧dj g w g w'∧aU g (.bw [.bool true,e.1,e.2.aL]) v∧Rel P gl N g { s with heap:=s.heap.set id (.iter MI since (MJ++[e.1])) } a w'∧∀r,g.b4 id=some r→w.grownBy w' (some r):=by
 have bM:∀v r w',(a.eval mr)=v→(Instr.next v false o.type).run P w=.ok r w'→(execOp a.eval o).run P w=.ok (.value r) w':=by
  intro v r w' ax aA
  simp only [execOp,aE,ax,Sem.run_bind,aA,Result.andThen_ok,Sem.run_pure]
 unfold sS at g6
 split at g6
 ·rename_i tn
  obtain ⟨r,mu,j5⟩:=(ca h kE aB).m2
  split at g6
  ·rename_i Z2 rD bG
   simp at g6
   obtain ⟨rfl,rfl,rfl,rfl,rfl⟩:=g6
   obtain ⟨cQ,bt,aG,aJ,bo,cd⟩:=h.heap _ _ bG
   rw [mu] at aG;simp at aG;subst aG
   cases bt<;>simp only [kY] at cd
   rename_i mp iL eO last
   cases mp with
   | some b1=>exact cd.elim
   | none =>
    refine .inl ⟨rfl,bM _ _ _ j5 ?_⟩
    simp [Instr.next,ptrTo,getObj,Sem.run,aJ]
  ·rename_i a7 Z2 rD bG
   split at g6
   ·rename_i n MK mZ
    split at g6
    ·rename_i a1
     simp at g6
     obtain ⟨rfl,rfl,rfl,rfl,rfl⟩:=g6
     subst a1
     obtain ⟨cQ,bt,aG,aJ,bo,cd⟩:=h.heap _ _ bG
     rw [mu] at aG;simp at aG;subst aG
     obtain ⟨b1,bK,arr,cg,cS,⟨b9,eC,eK,iY⟩,iG,hv,kD,az,C6⟩:=h.heap _ _ mZ
     have A:hk P g w a7 b1 n MK az arr b9:=⟨cg,cS,eC,eK,iY,iG,hv,kD,C6⟩
     cases bt<;>simp only [kY] at cd
     rename_i mp iL eO last
     cases mp with
     | none=>exact cd.elim
     | some pd =>
      obtain ⟨cf,cY,rfl,rfl,iM,yN⟩:=cd
      rw [bK] at cf;simp at cf;subst cf
      obtain ⟨L,cT,cn,fC,nh,ql⟩:=iM
      have Z3:∀k i j,(k,i)∈L→(k,j)∈L→i=j:=by
       intro k i j R aa
       obtain ⟨i1,fH,aB⟩:=List.getElem_of_mem R
       obtain ⟨i2,kx,aI⟩:=List.getElem_of_mem aa
       rcases Nat.lt_trichotomy i1 i2 with bz | rfl | bz
       ·have:=(List.pairwise_iff_getElem.1 cT i1 i2 fH kx bz).1
        rw [aB,aI] at this;simp only [tm (cn _ R).2] at this;cases this
       ·rw [aB] at aI;simpa using aI
       ·have:=(List.pairwise_iff_getElem.1 cT i2 i1 kx fH bz).1
        rw [aB,aI] at this;simp only [tm (cn _ R).2] at this;cases this
      have Z4:∀k k' i,(k,i)∈L→(k',i)∈L→k=k':=by
       intro k k' i R aa
       obtain ⟨i1,fH,aB⟩:=List.getElem_of_mem R
       obtain ⟨i2,kx,aI⟩:=List.getElem_of_mem aa
       rcases Nat.lt_trichotomy i1 i2 with bz | rfl | bz
       ·have:=(List.pairwise_iff_getElem.1 cT i1 i2 fH kx bz).2
        rw [aB,aI] at this;simp at this
       ·rw [aB] at aI;simp at aI;exact aI
       ·have:=(List.pairwise_iff_getElem.1 cT i2 i1 kx fH bz).2
        rw [aB,aI] at this;simp at this
      -- an entry is left on one side where it is on the other
      have tp:∀(i:Nat) e m,b9[i]?=some e→arr.toList[i]?=some m→(e.1,m.born)∈L∧(eO.contains m.born=rD.any (cI e.1)):=by
       intro i e m R aa
       have aA:=iY i e m R aa
       obtain ⟨cb,lO,C7⟩:=ql _ cg m (List.mem_of_getElem? aa)
       have ni:cb=e.1:=MB (cn _ lO).2 aA.2.1 C7 (aU.fA (γ:=fun _ _=>none) aA.2.1 aA.1)
       subst ni
       refine ⟨lO,?_⟩
       rw [Bool.eq_iff_iff]
       constructor
       ·intro af
        have hz:m.born∈eO.toList:=by simpa using af
        obtain ⟨j,a6,C8⟩:=List.getElem_of_mem hz
        have vV:j<rD.length:=by omega
        have dy:=nh j rD[j] m.born (by simp [vV]) (by rw [List.getElem?_eq_getElem a6,C8])
        have:=Z4 _ _ _ dy lO
        rw [List.any_eq_true]
        exact ⟨rD[j],List.getElem_mem vV,by rw [this];exact tm aA.2.1⟩
       ·intro af
        rw [List.any_eq_true] at af
        obtain ⟨k,ab,vP⟩:=af
        obtain ⟨j,a6,C8⟩:=List.getElem_of_mem ab
        have vV:j<eO.toList.length:=by omega
        have dy:=nh j k eO.toList[j] (by rw [List.getElem?_eq_getElem a6,C8]) (List.getElem?_eq_getElem vV)
        have ni:e.1=k:=C0 aA.2.1 (cn _ dy).2 vP
        rw [←ni] at dy
        have:=Z3 _ _ _ dy lO
        have:m.born∈eO.toList:=by rw [←this];exact List.getElem_mem vV
        simpa using this
      have hold:∀x∈arr.toList,x.born<last:=hv
      rcases run_next_at (P:=P) w o.type r b1 last last eO arr last aJ cg hold (Nat.le_refl _) with ⟨bx,yO⟩ | ⟨m,hm,b3,pe,yO⟩
      ·refine .inl ⟨?_,bM _ _ _ j5 (by simpa [ptrTo] using yO)⟩
       rw [List.filter_eq_nil_iff]
       intro e he
       obtain ⟨i,m,R,aa,aA⟩:=A.pc he
       obtain ⟨_,al⟩:=tp i e m R aa
       rw [←al]
       have vW:leftOf arr eO=#[]:=Array.eq_empty_of_size_eq_zero bx
       unfold leftOf at vW
       rw [Array.filter_eq_empty_iff] at vW
       have:=vW m (by have:=List.mem_of_getElem? aa;simpa using this)
       simpa using this
      ·have k7:m∈arr.toList∧eO.contains m.born=false:=by
        unfold leftOf at hm
        simp at hm
        refine ⟨by simpa using hm.1,by simpa using hm.2⟩
       obtain ⟨i,e,R,aa,al,aY⟩:=A.other k7.1
       obtain ⟨bn,cw⟩:=tp i e m R aa
       have jb:g.bd r=.bt tn:=bo
       have ck:tn≠a7:=by
        rintro rfl
        rw [mu] at bK;simp at bK;subst bK
        rw [cg] at aJ;cases aJ
       have ML:r≠b1:=by
        rintro rfl
        rw [cg] at aJ;cases aJ
       have nj:∀k,k≠r→(setBlock b3 r (.mapIter (some b1) last (eO.push m.born) last)).heap[k]?=w.heap[k]?:=by
        intro k ab
        have:b3.heap=w.heap:=by rcases pe with rfl | rfl<;>rfl
        simp only [setBlock,this]
        simp [Array.getElem?_setIfInBounds_ne (Ne.symm ab)]
       have MM:(setBlock b3 r (.mapIter (some b1) last (eO.push m.born) last)).heap[r]?=some (.mapIter (some b1) last (eO.push m.born) last):=by
        have:b3.heap=w.heap:=by rcases pe with rfl | rfl<;>rfl
        have bz:r<w.heap.size:=(Array.getElem?_eq_some_iff.1 aJ).1
        simp [setBlock,this,bz]
       have yP:(setBlock b3 r (.mapIter (some b1) last (eO.push m.born) last)).heap.size=w.heap.size:=by
        have:b3.heap=w.heap:=by rcases pe with rfl | rfl<;>rfl
        simp [setBlock,this]
       have fS:((setBlock b3 r (.mapIter (some b1) last (eO.push m.born) last)).os,(setBlock b3 r (.mapIter (some b1) last (eO.push m.born) last)).tape)=(w.os,w.tape)∧(setBlock b3 r (.mapIter (some b1) last (eO.push m.born) last)).output=w.output:=by
        rcases pe with rfl | rfl<;>exact ⟨rfl,rfl⟩
       generalize aqM:setBlock b3 r (.mapIter (some b1) last (eO.push m.born) last)=wd at nj MM yP yO fS
       have aK:GhLe g g:=⟨fun _ _ _ h=>h,fun _ _ h=>h⟩
       have ab:Kept g w g wd fun o=>o≠.bt tn:=fun k ab=>⟨rfl,nj k (fun e=>ab (by rw [e,jb])),fun _=>rfl⟩
       refine .inr ⟨e,?_,wd,_,bM _ _ _ j5 (by simpa [ptrTo] using yO),⟨aK,fun k ab=>⟨ab,nj k (fun e=>by rw [e,jb] at ab;cases ab),fun _=>rfl⟩,by rw [yP];exact Nat.le_refl _,fS.1,fS.2⟩,?_,?_,fun cQ iZ=>by rw [mu] at iZ;simp at iZ;subst iZ;exact ⟨congrArg Prod.fst fS.1,congrArg Prod.snd fS.1,fS.2,by rw [yP];exact Nat.le_refl _,fun k _ ab=>nj k (fun e=>ab (by rw [e]))⟩⟩
       ·rw [List.mem_filter]
        refine ⟨al,?_⟩
        rw [←cw,k7.2];rfl
       ·exact .bw _ [.bool true,m.key,m.val] (.cons _ _ _ _ (.pure _ _ (.bool _)) (.cons _ _ _ _ aY.1 (.cons _ _ _ _ aY.2.2.1.aL .nil)))
       ·refine ⟨h.sorted,h.size,h.defers,fun t e he=>(h.env t e he).kept aK ab (by simp) (by simp) (by simp),fun eP bt bh=>?_,fun k off v ax=>?_,fun k ab=>by rw [yP];exact h.own k ab,h.e4,fun i b av=>by simpa using h.er i b av⟩
        ·simp only at bh
         rw [List.getElem?_set] at bh
         split at bh
         ·rename_i bB;subst bB
          split at bh
          ·simp at bh;subst bh
           refine ⟨r,_,mu,MM,jb,bK,cY,rfl,rfl,⟨L,cT,cn,by simp [fC],fun i k sb fp eD=>?_,fun qk aZ gH Z5=>?_⟩,arr,last,by rw [nj b1 (Ne.symm ML)];exact cg,Nat.le_refl _⟩
           ·by_cases av:i<rD.length
            ·rw [List.getElem?_append_left av] at fp
             rw [Array.toList_push,List.getElem?_append_left (by omega)] at eD
             exact nh i k sb fp eD
            ·rw [List.getElem?_append_right (by omega)] at fp
             rw [Array.toList_push,List.getElem?_append_right (by omega)] at eD
             have bx:i - rD.length=0:=by have:=(List.getElem?_eq_some_iff.1 fp).1;simp at this;omega
             rw [←fC] at eD
             rw [bx] at fp eD
             simp at fp eD;subst fp eD
             exact bn
           ·rw [nj b1 (Ne.symm ML)] at aZ
            exact ql qk aZ gH Z5
          ·cases bh
         ·rename_i bB
          exact (h.heap eP bt bh).beside aK ab (fun h=>bB h.symm) mu (by simp [aJ]) (by simp) (by simp)
        ·have cF:=h.dY k off v ax
         by_cases bB:k=r
         ·subst bB
          unfold World.cell? at cF
          rw [aJ] at cF;simp at cF
         ·unfold World.cell? at cF ⊢
          rw [nj k bB];exact cF
    ·cases g6
   ·cases g6
  ·cases g6
 ·cases g6
end
end AM
