/- An abstract machine for the program of the seat, and what of the given program it does, part 16 of 17. Conditions: none. -/
import Derived.Test.YtjpfdkecffnlbaaGreatDoorAm14
import Derived.ChangeSame
import Derived.OpenShut
set_option linter.unusedVariables false
set_option linter.unusedSimpArgs false
/-! What a law's call leaves, where it returns true and keeps the memory that was there: the row's condition behind. Conditions: no slice of a type without cells. -/
namespace AM
open Go Go.ChangeShapes Go.WideShapes
def Bs (P:Program) (L:List TypeId):Bool:=L.all fun t=>match P.underlying t with
 | some (.slice e)=>decide (0<P.cellsOf e)&&L.contains e
 | some (.pointer e)=>L.contains e
 | some (.struct cu)=>cu.toList.all fun f=>L.contains f.type
 | some (.array _ e)=>L.contains e
 | some (.map _ e)=>L.contains e
 | _=>true
section
variable {H:Type} {L:List TypeId} {enc:TypeId×Value→H} {P:Program} {w w':World} {base:Nat}
theorem aqc (bx:Bs P L=true) {r cQ:TypeId→List Value→Option (DataW H×List MemPlace)} (aA:∀t cs x,t∈L→r t cs=some x→cQ t cs=some x) {t:TypeId} (dy:t∈L) {cs:List Value} {x:DataW H×List MemPlace}
  (h:DataW.trodStep enc P w base (fun _=>true) true r t cs=some x):DataW.trodStep enc P w base (fun b=>decide (b<w.heap.size)) true cQ t cs=some x:=by
 have cL:=List.all_eq_true.1 bx t dy
 unfold DataW.trodStep at h ⊢
 split at h<;>first | exact h | skip
 case h_6 aS =>
  simp only [aS,List.contains_eq_mem,decide_eq_true_eq] at cL
  simp only [Option.map_eq_some_iff,Option.bind_eq_some_iff] at h ⊢
  obtain ⟨y,⟨cG,af,aT⟩,rfl⟩:=h
  exact ⟨y,⟨cG,af,aA _ _ _ cL aT⟩,rfl⟩
 case h_8 e a len cap aS =>
  simp only [aS,Bool.and_eq_true,List.contains_eq_mem,decide_eq_true_eq] at cL
  simp only at h ⊢
  split at h
  ·rename_i af
   rw [if_pos af]
   simp only [if_true,Option.map_eq_some_iff,Option.bind_eq_some_iff] at h ⊢
   obtain ⟨elems,he,rest,rL,rfl⟩:=h
   have one:∀(i:Nat) y,(w.cells? base (a.add (i*P.cellsOf e)) (P.cellsOf e)).bind (r e)=some y→(w.cells? base (a.add (i*P.cellsOf e)) (P.cellsOf e)).bind (cQ e)=some y:=fun i y ax=>by
    simp only [Option.bind_eq_some_iff] at ax ⊢
    obtain ⟨cG,R,aa⟩:=ax
    exact ⟨cG,R,aA _ _ _ cL.2 aa⟩
   refine ⟨elems,mapM_carry he fun i y _ _ ax=>one i y ax,rest,?_,rfl⟩
   by_cases ah:a.block<w.heap.size
   ·rw [if_pos (by simpa using ah)]
    exact mapM_carry rL fun i y _ _ ax=>one _ y ax
   ·rw [if_neg (by simpa using ah)]
    have a0:cap - len=0:=by
     rcases Nat.eq_zero_or_pos (cap - len) with a0 | a0
     ·exact a0
     ·exfalso
      have aN:rest.length=cap - len:=by simpa using mapM_some_length rL
      have R:=mapM_some_get rL 0 0 (by simp [a0])
      rw [List.getElem?_eq_getElem (by omega),Option.bind_eq_some_iff] at R
      obtain ⟨cG,aa,_⟩:=R
      have:=World.cells?_block aa cL.1
      refine ah ?_
      unfold Addr.add at this
      split at this
      ·exact this
      ·exact this
    rw [a0] at rL
    simpa using rL
  ·cases h
 case h_9 aS =>
  simp only [aS,List.all_eq_true,List.contains_eq_mem,decide_eq_true_eq] at cL
  split at h
  ·rename_i af
   rw [if_pos af]
   simp only [Option.map_eq_some_iff] at h ⊢
   obtain ⟨xs,ai,rfl⟩:=h
   exact ⟨xs,mapM_carry ai (fun f y aP _ ax=>aA _ _ _ (cL f aP) ax),rfl⟩
  ·cases h
 case h_10 aS =>
  simp only [aS,List.contains_eq_mem,decide_eq_true_eq] at cL
  split at h
  ·rename_i af
   rw [if_pos af]
   simp only [Option.map_eq_some_iff] at h ⊢
   obtain ⟨xs,ai,rfl⟩:=h
   exact ⟨xs,mapM_carry ai (fun f y _ _ ax=>aA _ _ _ cL ax),rfl⟩
  ·cases h
 case h_14 aS =>
  simp only [aS,List.contains_eq_mem,decide_eq_true_eq] at cL
  split at h
  ·split at h
   ·rename_i af
    rw [if_pos af]
    simp only [Option.bind_eq_some_iff] at h ⊢
    obtain ⟨entries,he,aw⟩:=h
    refine ⟨entries,mapM_carry he (fun x y _ _ ax=>?_),aw⟩
    simp only [Option.bind_eq_some_iff] at ax ⊢
    obtain ⟨key,ab,bL⟩:=ax
    refine ⟨key,ab,?_⟩
    split at bL
    ·rename_i aP
     rw [if_pos aP]
     simp only [Option.map_eq_some_iff] at bL ⊢
     obtain ⟨q,bL,rfl⟩:=bL
     exact ⟨q,aA _ _ _ cL bL,rfl⟩
    ·cases bL
   ·cases h
  ·cases h
theorem XC (bx:Bs P L=true):∀(n:Nat) (t:TypeId) (cs:List Value) (x:DataW H×List MemPlace),t∈L →
  DataW.trod enc P w base (fun _=>true) true n t cs=some x→DataW.trod enc P w base (fun b=>decide (b<w.heap.size)) true n t cs=some x
 | 0,_,_,_,_,h=>by simp [DataW.trod] at h
 | n+1,t,cs,x,dy,h=>by
  rw [DataW.trod_step] at h ⊢
  exact aqc bx (XC bx n) dy h
theorem XD (bx:Bs P L=true):∀{bk:List TypeId} {vs:List Value} {fB:List (DataW H)} {bT:List MemPlace},(∀t∈bk,t∈L)→DataW.TrodAll enc P w base (fun _=>true) true bk vs fB bT→DataW.TrodAll enc P w base (fun b=>decide (b<w.heap.size)) true bk vs fB bT
 | [],_,_,_,_,h=>by
  obtain ⟨rfl,rfl,rfl⟩:=trodAll_nil h
  exact rfl
 | t::_,_,_,_,dy,h=>by
  obtain ⟨v,XE,d,XF,a,b,rfl,rfl,rfl,⟨n,aa⟩,al⟩:=trodAll_cons h
  exact ⟨a,b,⟨n,XC bx _ _ _ _ (dy t (by simp)) aa⟩,XD bx (fun t aF=>dy t (by simp [aF])) al,rfl⟩
theorem aqd (bc:∀b,b<w.heap.size→w'.heap[b]?=w.heap[b]?) {p:MemPlace} (ao:p.block<w.heap.size):w.sameAt w' p:=by
 cases p with
 | cell b off=>simp only [World.sameAt,World.cell?];rw [bc b ao]
 | map b=>exact bc b ao
theorem aqe {f:Func} {s:ChangeSpec} {apart fresh handsOn again:Bool} {W cM:World} {args:Array Value} {v:Value} {fB gs:List (DataW H)} {before:List MemPlace}
  (bx:Bs P L=true) (dy:∀t∈f.params.toList,t∈L) (Ls:s.vars=[])
  (hC:DataW.Whole enc P f.params.toList s.vars apart W args.toList fB gs before)
  (pj:∀(b:Nat) (sp:Nat→Bool) (aw:Bool),DataW.TrodAll enc P cM b sp aw f.resultTypes.toList (v.resultList f.resultTypes.size) (s.fn H (fB++gs)).results [])
  (k9:(s.fn H (fB++gs)).args=fB) (aqf:(s.fn H (fB++gs)).vars=[])
  (bc:∀b,b<W.heap.size→cM.heap[b]?=W.heap[b]?) (fS:cM.os=W.os) (jH:cM.output=W.output)
  (cq:∀(j:Nat) (t:TypeId) (r:Value),f.resultTypes[j]?=some t→(v.resultList f.resultTypes.size)[j]?=some r→Value.okWide P cM .any 0 t r) :
  s.post enc P f apart fresh handsOn again W args v cM:=by
 have bz:=hC.lt
 have Lt:=hC
 obtain ⟨p,q,dk,lS,rfl,XG,n8⟩:=hC
 rw [Ls] at lS
 obtain ⟨rfl,rfl⟩:gs=[]∧q=[]:=trodVars_none lS
 have XH:∀x∈p,x.block<W.heap.size:=fun x ai=>bz x (by simp [ai])
 -- places are carried along with what is read
 have carry:∀(sp:Nat→Bool),DataW.TrodAll enc P W 0 sp true f.params.toList args.toList fB p→DataW.TrodAll enc P cM 0 sp true f.params.toList args.toList fB p:=by
  intro sp
  generalize f.params.toList=bk
  generalize args.toList=vs
  revert bk vs
  have key:∀(bk:List TypeId) (vs:List Value) (fB:List (DataW H)) (bT:List MemPlace),(∀x∈bT,x.block<W.heap.size)→DataW.TrodAll enc P W 0 sp true bk vs fB bT→DataW.TrodAll enc P cM 0 sp true bk vs fB bT:=by
   intro bk
   induction bk with
   | nil=>intro vs fB bT _ h;obtain ⟨rfl,rfl,rfl⟩:=trodAll_nil h;exact rfl
   | cons t bk ih =>
    intro vs fB bT ao h
    obtain ⟨v,XE,d,XF,a,b,rfl,rfl,rfl,⟨n,aa⟩,al⟩:=trodAll_cons h
    exact ⟨a,b,⟨n,DataW.trod_carry n _ _ _ aa fun x ai=>aqd bc (ao x (by simp only [List.mem_append];exact .inl ai))⟩,ih _ _ _ (fun x ai=>ao x (by simp only [List.mem_append];exact .inr ai)) al,rfl⟩
  intro bk vs h
  exact key bk vs fB p XH h
 have aqg:DataW.TrodAll enc P cM 0 (fun b=>decide (b<W.heap.size)) true f.params.toList args.toList fB p:=carry _ (XD bx dy dk)
 have aqh:DataW.TrodAll enc P cM 0 (fun _=>true) true f.params.toList args.toList fB p:=carry _ dk
 refine ⟨fB,[],p++[],[],p,[],Lt,pj _ _ _,by rw [k9];exact aqg,by rw [Ls,aqf];exact rfl,⟨fS,jH,fun i av=>?_⟩,fun _=>⟨cq,_,[],([]++p)++[],⟨[]++p,[],trodAll_append aqh (pj _ _ _),by rw [Ls];exact (rfl:([]:List MemPlace)=[]),rfl,?_,?_⟩,?_⟩⟩
 ·rw [bc i av]
  split
  ·rename_i aB aI
   rw [aB] at aI
   simp only [Option.some.injEq,Obj.cells.injEq] at aI
   obtain ⟨rfl,rfl,rfl⟩:=aI
   exact ⟨rfl,rfl,rfl,fun _ _=>rfl⟩
  ·rename_i aB aI
   rw [aB] at aI
   simp only [Option.some.injEq,Obj.map.injEq] at aI
   obtain ⟨rfl,rfl⟩:=aI
   exact .inr ⟨rfl,rfl⟩
  ·rfl
 ·intro b off ao
  have:=XG b off (by simpa using ao)
  have ah:b<W.heap.size:=XH (.cell b off) (by simpa using ao)
  simp only [World.frozen?] at this ⊢
  rw [bc b ah]
  exact this
 ·intro aZ
  simpa using n8 aZ
 ·intro x ai _
  simpa using ai
end
end AM
