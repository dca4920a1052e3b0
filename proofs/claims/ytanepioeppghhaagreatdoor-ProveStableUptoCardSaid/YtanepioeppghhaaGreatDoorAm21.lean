/- An abstract machine, and what of the given program it does, part 22. Conditions: none. -/
import Derived.Test.YtanepioeppghhaaGreatDoorAm20
import Derived.ChangeSame
import Derived.OpenShut
set_option linter.unusedVariables false
namespace AM
open Option renaming bind_eq_some_iff -> aKg,map_eq_some_iff -> aKi
open List renaming contains_eq_mem -> aKh
open Go Go.ChangeShapes Go.WideShapes
def Jz(P:Program)(L:List TypeId):Bool:=L.all fun t=>match P.underlying t with
 |some (.slice e)=>decide (0<P.cellsOf e)&&L.contains e|some (.pointer e)=>L.contains e|some (.struct dm)=>dm.toList.all fun f=>L.contains f.type|some (.array _ e)=>L.contains e|some (.map _ e)=>L.contains e|_=>true
section
variable {H:Type}{L:List TypeId}{enc:TypeId×Value->H}{P:Program}{w w':World}{base:Nat}
theorem aF4(u:Jz P L=true){r r':TypeId->List Value->Option (DataW H×List MemPlace)}(m:∀t cs x,t∈L->r t cs=some x->r' t cs=some x){t:TypeId}(cg:t∈L){cs:List Value}{x:DataW H×List MemPlace}
  (h:DataW.trodStep enc P w base (fun _=>true) true r t cs=some x):DataW.trodStep enc P w base (fun b=>decide (b<w.heap.size)) true r' t cs=some x:=by
 have dL:=List.all_eq_true.1 u t cg;unfold DataW.trodStep at h ⊢;split at h<;>first|exact h|skip
 case h_6 az =>
  simp only[az,aKh,decide_eq_true_eq]at dL;simp only[aKi,aKg]at h ⊢;obtain⟨y,⟨g,j,v⟩,rfl⟩:=h;exact⟨y,⟨g,j,m _ _ _ dL v⟩,rfl⟩
 case h_8 e a len cap az =>
  simp only[az,Bool.and_eq_true,aKh,decide_eq_true_eq]at dL;simp only at h ⊢;split at h
  ·rename_i j;rw[if_pos j];simp only[if_true,aKi,aKg]at h ⊢;obtain⟨elems,he,k,n,rfl⟩:=h;have one:∀(i:Nat)y,(w.cells? base (a.add (i*P.cellsOf e)) (P.cellsOf e)).bind (r e)=some y->(w.cells? base (a.add (i*P.cellsOf e)) (P.cellsOf e)).bind (r' e)=some y:=fun i y c=>by
    simp only[aKg]at c ⊢;obtain⟨g,p,U⟩:=c;exact⟨g,p,m _ _ _ dL.2 U⟩
   refine⟨elems,mapM_carry he fun i y _ _ c=>one i y c,k,?_,rfl⟩;by_cases ae:a.block<w.heap.size
   ·rw[if_pos (by simpa using ae)];exact mapM_carry n fun i y _ _ c=>one _ y c
   ·rw[if_neg (by simpa using ae)];have o:cap-len=0:=by
     rcases Nat.eq_zero_or_pos (cap-len)with o|o
     ·exact o
     ·exfalso;have z:k.length=cap-len:=by simpa using mapM_some_length n
      have p:=mapM_some_get n 0 0 (by simp[o]);rw[List.getElem?_eq_getElem (by omega),aKg]at p;obtain⟨g,U,_⟩:=p;have:=World.cells?_block U dL.1;refine ae ?_;unfold Addr.add at this;split at this
      ·exact this
      ·exact this
    rw[o]at n;simpa using n
  ·cases h
 case h_9 az =>
  simp only[az,List.all_eq_true,aKh,decide_eq_true_eq]at dL;split at h
  ·rename_i j;rw[if_pos j];simp only[aKi]at h ⊢;obtain⟨xs,ah,rfl⟩:=h;exact⟨xs,mapM_carry ah (fun f y s _ c=>m _ _ _ (dL f s) c),rfl⟩
  ·cases h
 case h_10 az =>
  simp only[az,aKh,decide_eq_true_eq]at dL;split at h
  ·rename_i j;rw[if_pos j];simp only[aKi]at h ⊢;obtain⟨xs,ah,rfl⟩:=h;exact⟨xs,mapM_carry ah (fun f y _ _ c=>m _ _ _ dL c),rfl⟩
  ·cases h
 case h_14 az =>
  simp only[az,aKh,decide_eq_true_eq]at dL;split at h
  ·split at h
   ·rename_i j;rw[if_pos j];simp only[aKg]at h ⊢;obtain⟨d,he,hd⟩:=h;refine⟨d,mapM_carry he (fun x y _ _ c=>?_),hd⟩;simp only[aKg]at c ⊢;obtain⟨key,hk,l⟩:=c;refine⟨key,hk,?_⟩;split at l
    ·rename_i s;rw[if_pos s];simp only[aKi]at l ⊢;obtain⟨q,l,rfl⟩:=l;exact⟨q,m _ _ _ dL l,rfl⟩
    ·cases l
   ·cases h
  ·cases h
theorem ahg(a:Jz P L=true):∀(n:Nat)(t:TypeId)(cs:List Value)(x:DataW H×List MemPlace),t∈L ->
  DataW.trod enc P w base (fun _=>true) true n t cs=some x->DataW.trod enc P w base (fun b=>decide (b<w.heap.size)) true n t cs=some x
 |0,_,_,_,_,h=>by simp[DataW.trod]at h|n+1,t,cs,x,cg,h=>by
  rw[DataW.trod_step]at h ⊢;exact aF4 a (ahg a n) cg h
theorem ahh(c:Jz P L=true):∀{bu:List TypeId}{vs:List Value}{hE:List (DataW H)}{e:List MemPlace},(∀t∈bu,t∈L)->DataW.TrodAll enc P w base (fun _=>true) true bu vs hE e->DataW.TrodAll enc P w base (fun b=>decide (b<w.heap.size)) true bu vs hE e
 |[],_,_,_,_,h=>by
  obtain⟨rfl,rfl,rfl⟩:=trodAll_nil h;exact rfl
 |t::_,_,_,_,cg,h=>by
  obtain⟨v,f,d,g,a,b,rfl,rfl,rfl,⟨n,U⟩,i⟩:=trodAll_cons h;exact⟨a,b,⟨n,ahg c _ _ _ _ (cg t (by simp)) U⟩,ahh c (fun t j=>cg t (by simp[j])) i,rfl⟩
theorem aF5(a:∀b,b<w.heap.size->w'.heap[b]?=w.heap[b]?){p:MemPlace}(ao:p.block<w.heap.size):w.sameAt w' p:=by
 cases p with
 |cell b off=>simp only[World.sameAt,World.cell?];rw[a b ao]|map b=>exact a b ao
theorem aF6{f:Func}{s:ChangeSpec}{c m e o:Bool}{W k:World}{args:Array Value}{v:Value}{hE y:List (DataW H)}{l:List MemPlace}
  (G:Jz P L=true)(cg:∀t∈f.params.toList,t∈L)(B:s.vars=[])
  (C:DataW.Whole enc P f.params.toList s.vars c W args.toList hE y l)
  (D:∀(b:Nat)(u:Nat->Bool)(hd:Bool),DataW.TrodAll enc P k b u hd f.resultTypes.toList (v.resultList f.resultTypes.size) (s.fn H (hE++y)).results [])
  (J:(s.fn H (hE++y)).args=hE)(K:(s.fn H (hE++y)).vars=[])
  (E:∀b,b<W.heap.size->k.heap[b]?=W.heap[b]?)(O:k.os=W.os)(Q:k.output=W.output)
  (R:∀(j:Nat)(t:TypeId)(r:Value),f.resultTypes[j]?=some t->(v.resultList f.resultTypes.size)[j]?=some r->Value.okWide P k .any 0 t r) :
  s.post enc P f c m e o W args v k:=by
 have S:=C.lt;have T:=C;obtain⟨p,q,cq,F,rfl,V,X⟩:=C;rw[B]at F;obtain⟨rfl,rfl⟩:y=[]/\q=[]:=trodVars_none F;have z:∀x∈p,x.block<W.heap.size:=fun x ah=>S x (by simp[ah])
 -- places are carried along with what is read
 have g:∀(u:Nat->Bool),DataW.TrodAll enc P W 0 u true f.params.toList args.toList hE p->DataW.TrodAll enc P k 0 u true f.params.toList args.toList hE p:=by
  intro u;generalize f.params.toList=bu;generalize args.toList=vs;revert bu vs;have key:∀(bu:List TypeId)(vs:List Value)(hE:List (DataW H))(A:List MemPlace),(∀x∈A,x.block<W.heap.size)->DataW.TrodAll enc P W 0 u true bu vs hE A->DataW.TrodAll enc P k 0 u true bu vs hE A:=by
   intro bu;induction bu with
   |nil=>intro vs hE A _ h;obtain⟨rfl,rfl,rfl⟩:=trodAll_nil h;exact rfl
   |cons t bu ih =>
    intro vs hE A ao h;obtain⟨v,Y,d,Z,a,b,rfl,rfl,rfl,⟨n,U⟩,ai⟩:=trodAll_cons h;exact⟨a,b,⟨n,DataW.trod_carry n _ _ _ U fun x ah=>aF5 E (ao x (by simp only[List.mem_append];exact .inl ah))⟩,ih _ _ _ (fun x ah=>ao x (by simp only[List.mem_append];exact .inr ah)) ai,rfl⟩
  intro bu vs h;exact key bu vs hE p z h
 have BZ:DataW.TrodAll enc P k 0 (fun b=>decide (b<W.heap.size)) true f.params.toList args.toList hE p:=g _ (ahh G cg cq);have k8:DataW.TrodAll enc P k 0 (fun _=>true) true f.params.toList args.toList hE p:=g _ cq;refine⟨hE,[],p++[],[],p,[],T,D _ _ _,by rw[J];exact BZ,by rw[B,K];exact rfl,⟨O,Q,fun i ak=>?_⟩,fun _=>⟨R,_,[],([]++p)++[],⟨[]++p,[],trodAll_append k8 (D _ _ _),by rw[B];exact(rfl:([]:List MemPlace)=[]),rfl,?_,?_⟩,?_⟩⟩
 ·grind
 ·intro b off ao;have:=V b off (by simpa using ao);have ae:b<W.heap.size:=z (.cell b off) (by simpa using ao);simp only[World.frozen?]at this ⊢;rw[E b ae];exact this
 ·intro aE;simpa using X aE
 ·intro x ah _;simpa using ah
end
end AM
