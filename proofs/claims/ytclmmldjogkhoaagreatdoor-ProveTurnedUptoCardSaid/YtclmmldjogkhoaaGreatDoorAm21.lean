/- An abstract machine, and what of the given program it does, part 22. Conditions: none. -/
import Derived.Test.YtclmmldjogkhoaaGreatDoorAm20
import Derived.ChangeSame
import Derived.OpenShut
set_option linter.unusedVariables false
namespace AM
open Option renaming bind_eq_some_iff -> I9,map_eq_some_iff -> LW
open List renaming contains_eq_mem -> Ja
open Go Go.ChangeShapes Go.WideShapes
def Jz(P:Program)(L:List TypeId):Bool:=L.all fun t=>match P.underlying t with
 |some (.slice e)=>decide (0<P.cellsOf e)&&L.contains e|some (.pointer e)=>L.contains e|some (.struct dm)=>dm.toList.all fun f=>L.contains f.type|some (.array _ e)=>L.contains e|some (.map _ e)=>L.contains e|_=>true
section
variable {H:Type}{L:List TypeId}{enc:TypeId×Value->H}{P:Program}{w w':World}{base:Nat}
theorem aF4(u:Jz P L=true){r r':TypeId->List Value->Option (DataW H×List MemPlace)}(m:∀t cs x,t∈L->r t cs=some x->r' t cs=some x){t:TypeId}(cg:t∈L){cs:List Value}{x:DataW H×List MemPlace}
  (h:DataW.trodStep enc P w base (fun _=>true) true r t cs=some x):DataW.trodStep enc P w base (fun b=>decide (b<w.heap.size)) true r' t cs=some x:=by
 have dL:=List.all_eq_true.1 u t cg;unfold DataW.trodStep at h ⊢;split at h<;>first|exact h|skip
 case h_6 az =>
  simp only[az,Ja,decide_eq_true_eq]at dL;simp only[LW,I9]at h ⊢;obtain⟨y,⟨g,j,v⟩,rfl⟩:=h;exact⟨y,⟨g,j,m _ _ _ dL v⟩,rfl⟩
 case h_8 e a len cap az =>
  simp only[az,Bool.and_eq_true,Ja,decide_eq_true_eq]at dL;simp only at h ⊢;split at h
  ·rename_i j;rw[if_pos j];simp only[if_true,LW,I9]at h ⊢;obtain⟨elems,he,k,n,rfl⟩:=h;have one:∀(i:Nat)y,(w.cells? base (a.add (i*P.cellsOf e)) (P.cellsOf e)).bind (r e)=some y->(w.cells? base (a.add (i*P.cellsOf e)) (P.cellsOf e)).bind (r' e)=some y:=fun i y c=>by
    simp only[I9]at c ⊢;obtain⟨g,p,U⟩:=c;exact⟨g,p,m _ _ _ dL.2 U⟩
   refine⟨elems,mapM_carry he fun i y _ _ c=>one i y c,k,?_,rfl⟩;by_cases ae:a.block<w.heap.size
   ·rw[if_pos (by simpa using ae)];exact mapM_carry n fun i y _ _ c=>one _ y c
   ·rw[if_neg (by simpa using ae)];have o:cap-len=0:=by
     rcases Nat.eq_zero_or_pos (cap-len)with o|o
     ·exact o
     ·exfalso;have z:k.length=cap-len:=by simpa using mapM_some_length n
      have p:=mapM_some_get n 0 0 (by simp[o]);rw[List.getElem?_eq_getElem (by omega),I9]at p;obtain⟨g,U,_⟩:=p;have:=World.cells?_block U dL.1;refine ae ?_;unfold Addr.add at this;split at this
      ·exact this
      ·exact this
    rw[o]at n;simpa using n
  ·cases h
 case h_9 az =>
  simp only[az,List.all_eq_true,Ja,decide_eq_true_eq]at dL;split at h
  ·rename_i j;rw[if_pos j];simp only[LW]at h ⊢;obtain⟨xs,ah,rfl⟩:=h;exact⟨xs,mapM_carry ah (fun f y s _ c=>m _ _ _ (dL f s) c),rfl⟩
  ·cases h
 case h_10 az =>
  simp only[az,Ja,decide_eq_true_eq]at dL;split at h
  ·rename_i j;rw[if_pos j];simp only[LW]at h ⊢;obtain⟨xs,ah,rfl⟩:=h;exact⟨xs,mapM_carry ah (fun f y _ _ c=>m _ _ _ dL c),rfl⟩
  ·cases h
 case h_14 az =>
  simp only[az,Ja,decide_eq_true_eq]at dL;split at h
  ·split at h
   ·rename_i j;rw[if_pos j];simp only[I9]at h ⊢;obtain⟨d,he,hd⟩:=h;refine⟨d,mapM_carry he (fun x y _ _ c=>?_),hd⟩;simp only[I9]at c ⊢;obtain⟨key,hk,l⟩:=c;refine⟨key,hk,?_⟩;split at l
    ·rename_i s;rw[if_pos s];simp only[LW]at l ⊢;obtain⟨q,l,rfl⟩:=l;exact⟨q,m _ _ _ dL l,rfl⟩
    ·cases l
   ·cases h
  ·cases h
theorem ahg(a:Jz P L=true):∀(n:Nat)(t:TypeId)(cs:List Value)(x:DataW H×List MemPlace),t∈L ->
  DataW.trod enc P w base (fun _=>true) true n t cs=some x->DataW.trod enc P w base (fun b=>decide (b<w.heap.size)) true n t cs=some x
 |0,_,_,_,_,h=>by simp[DataW.trod]at h|n+1,t,cs,x,cg,h=>by
  rw[DataW.trod_step]at h ⊢;exact aF4 a (ahg a n) cg h
theorem ahh(c:Jz P L=true):∀{bu:List TypeId}{vs:List Value}{e:List (DataW H)}{f:List MemPlace},(∀t∈bu,t∈L)->DataW.TrodAll enc P w base (fun _=>true) true bu vs e f->DataW.TrodAll enc P w base (fun b=>decide (b<w.heap.size)) true bu vs e f
 |[],_,_,_,_,h=>by
  obtain⟨rfl,rfl,rfl⟩:=trodAll_nil h;exact rfl
 |t::_,_,_,_,cg,h=>by
  obtain⟨v,g,d,i,a,b,rfl,rfl,rfl,⟨n,U⟩,j⟩:=trodAll_cons h;exact⟨a,b,⟨n,ahg c _ _ _ _ (cg t (by simp)) U⟩,ahh c (fun t k=>cg t (by simp[k])) j,rfl⟩
theorem aF5(a:∀b,b<w.heap.size->w'.heap[b]?=w.heap[b]?){p:MemPlace}(ao:p.block<w.heap.size):w.sameAt w' p:=by
 cases p with
 |cell b off=>simp only[World.sameAt,World.cell?];rw[a b ao]|map b=>exact a b ao
theorem aF6{f:Func}{s:ChangeSpec}{e o g u:Bool}{W l:World}{args:Array Value}{v:Value}{c z:List (DataW H)}{m:List MemPlace}
  (J:Jz P L=true)(cg:∀t∈f.params.toList,t∈L)(C:s.vars=[])
  (D:DataW.Whole enc P f.params.toList s.vars e W args.toList c z m)
  (E:∀(b:Nat)(y:Nat->Bool)(hd:Bool),DataW.TrodAll enc P l b y hd f.resultTypes.toList (v.resultList f.resultTypes.size) (s.fn H (c++z)).results [])
  (K:(s.fn H (c++z)).args=c)(O:(s.fn H (c++z)).vars=[])
  (F:∀b,b<W.heap.size->l.heap[b]?=W.heap[b]?)(Q:l.os=W.os)(R:l.output=W.output)
  (S:∀(j:Nat)(t:TypeId)(r:Value),f.resultTypes[j]?=some t->(v.resultList f.resultTypes.size)[j]?=some r->Value.okWide P l .any 0 t r) :
  s.post enc P f e o g u W args v l:=by
 have T:=D.lt;have V:=D;obtain⟨p,q,cq,G,rfl,X,Y⟩:=D;rw[C]at G;obtain⟨rfl,rfl⟩:z=[]/\q=[]:=trodVars_none G;have A:∀x∈p,x.block<W.heap.size:=fun x ah=>T x (by simp[ah])
 -- places are carried along with what is read
 have k:∀(y:Nat->Bool),DataW.TrodAll enc P W 0 y true f.params.toList args.toList c p->DataW.TrodAll enc P l 0 y true f.params.toList args.toList c p:=by
  intro y;generalize f.params.toList=bu;generalize args.toList=vs;revert bu vs;have key:∀(bu:List TypeId)(vs:List Value)(c:List (DataW H))(B:List MemPlace),(∀x∈B,x.block<W.heap.size)->DataW.TrodAll enc P W 0 y true bu vs c B->DataW.TrodAll enc P l 0 y true bu vs c B:=by
   intro bu;induction bu with
   |nil=>intro vs c B _ h;obtain⟨rfl,rfl,rfl⟩:=trodAll_nil h;exact rfl
   |cons t bu ih =>
    intro vs c B ao h;obtain⟨v,Z,d,ahj,a,b,rfl,rfl,rfl,⟨n,U⟩,ai⟩:=trodAll_cons h;exact⟨a,b,⟨n,DataW.trod_carry n _ _ _ U fun x ah=>aF5 F (ao x (by simp only[List.mem_append];exact .inl ah))⟩,ih _ _ _ (fun x ah=>ao x (by simp only[List.mem_append];exact .inr ah)) ai,rfl⟩
  intro bu vs h;exact key bu vs c p A h
 have BZ:DataW.TrodAll enc P l 0 (fun b=>decide (b<W.heap.size)) true f.params.toList args.toList c p:=k _ (ahh J cg cq);have k8:DataW.TrodAll enc P l 0 (fun _=>true) true f.params.toList args.toList c p:=k _ cq;refine⟨c,[],p++[],[],p,[],V,E _ _ _,by rw[K];exact BZ,by rw[C,O];exact rfl,⟨Q,R,fun i ak=>?_⟩,fun _=>⟨S,_,[],([]++p)++[],⟨[]++p,[],trodAll_append k8 (E _ _ _),by rw[C];exact(rfl:([]:List MemPlace)=[]),rfl,?_,?_⟩,?_⟩⟩
 ·grind
 ·intro b off ao;have:=X b off (by simpa using ao);have ae:b<W.heap.size:=A (.cell b off) (by simpa using ao);simp only[World.frozen?]at this ⊢;rw[F b ae];exact this
 ·intro aE;simpa using Y aE
 ·intro x ah _;simpa using ah
end
end AM
