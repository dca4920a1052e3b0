/- An abstract machine, and what of the given program it does, part 11. Conditions: none. -/
import Derived.Test.YtljpaghckmbmlaaGreatDoorAm9
import Derived.ChangeSame
import Derived.OpenShut
import Derived.LaidLaws
set_option linter.unusedVariables false
namespace AM
open Option renaming map_eq_some_iff -> VX,bind_eq_some_iff -> VY
open List renaming contains_eq_mem -> VZ
open Go Go.ChangeShapes Go.WideShapes
def LL(P:Program)(L:List TypeId):Bool:=L.all λt=>match P.underlying t with
 |some (.slice e)=>decide (0<P.cellsOf e)&&L.contains e|some (.pointer e)=>L.contains e|some (.struct dC)=>dC.toList.all λf=>L.contains f.type|some (.array _ e)=>L.contains e|some (.map _ e)=>L.contains e|_=>true
section
variable {H:Type}{L:List TypeId}{enc:TypeId×Value->H}{P:Program}{w w':World}{base:Nat}
theorem aNi(v:LL P L=true){r r':TypeId->List Value->Option (DataW H×List MemPlace)}(m:∀t cs x,t∈L->r t cs=some x->r' t cs=some x){t:TypeId}(cf:t∈L){cs:List Value}{x:DataW H×List MemPlace}
  (h:DataW.trodStep enc P w base (λ_=>true) true r t cs=some x):DataW.trodStep enc P w base (λb=>decide (b<w.heap.size)) true r' t cs=some x:=by
 have ej:=List.all_eq_true.1 v t cf;unfold DataW.trodStep at h ⊢;split at h<;>first|exact h|skip
 case h_6 ax =>
  simp only[ax,VZ,decide_eq_true_eq]at ej;simp only[VX,VY]at h ⊢;obtain⟨y,⟨g,j,z⟩,rfl⟩:=h;exact⟨y,⟨g,j,m _ _ _ ej z⟩,rfl⟩
 case h_8 e a len cap ax =>
  simp only[ax,Bool.and_eq_true,VZ,decide_eq_true_eq]at ej;simp only at h ⊢;split at h
  ·rename_i j;rw[if_pos j];simp only[if_true,VX,VY]at h ⊢;obtain⟨elems,he,k,n,rfl⟩:=h;have one:∀(i:Nat)y,(w.cells? base (a.add (i*P.cellsOf e)) (P.cellsOf e)).bind (r e)=some y->(w.cells? base (a.add (i*P.cellsOf e)) (P.cellsOf e)).bind (r' e)=some y:=λi y c=>by
    simp only[VY]at c ⊢;obtain⟨g,p,s⟩:=c;exact⟨g,p,m _ _ _ ej.2 s⟩
   refine⟨elems,mapM_carry he λi y _ _ c=>one i y c,k,?_,rfl⟩;by_cases ae:a.block<w.heap.size
   ·rw[if_pos nf];exact mapM_carry n λi y _ _ c=>one _ y c
   ·rw[if_neg nf];have o:cap-len=0:=by
     rcases Nat.eq_zero_or_pos (cap-len)with o|o
     ·exact o
     ·exfalso;have A:k.length=cap-len:=by simpa using mapM_some_length n
      have p:=mapM_some_get n 0 0 (by simp[o]);rw[List.getElem?_eq_getElem am,VY]at p;obtain⟨g,s,_⟩:=p;have:=World.cells?_block s ej.1;refine ae ?_;unfold Addr.add at this;split at this
      ·exact this
      ·exact this
    rw[o]at n;simpa using n
  ·cases h
 case h_9 ax =>
  simp only[ax,List.all_eq_true,VZ,decide_eq_true_eq]at ej;split at h
  ·rename_i j;rw[if_pos j];simp only[VX]at h ⊢;obtain⟨xs,ah,rfl⟩:=h;exact⟨xs,mapM_carry ah (λf y u _ c=>m _ _ _ (ej f u) c),rfl⟩
  ·cases h
 case h_10 ax =>
  simp only[ax,VZ,decide_eq_true_eq]at ej;split at h
  ·rename_i j;rw[if_pos j];simp only[VX]at h ⊢;obtain⟨xs,ah,rfl⟩:=h;exact⟨xs,mapM_carry ah (λf y _ _ c=>m _ _ _ ej c),rfl⟩
  ·cases h
 case h_14 ax =>
  simp only[ax,VZ,decide_eq_true_eq]at ej;split at h
  ·split at h
   ·rename_i j;rw[if_pos j];simp only[VY]at h ⊢;obtain⟨d,he,hd⟩:=h;refine⟨d,mapM_carry he (λx y _ _ c=>?_),hd⟩;simp only[VY]at c ⊢;obtain⟨key,hk,l⟩:=c;refine⟨key,hk,?_⟩;split at l
    ·rename_i u;rw[if_pos u];simp only[VX]at l ⊢;obtain⟨q,l,rfl⟩:=l;exact⟨q,m _ _ _ ej l,rfl⟩
    ·cases l
   ·cases h
  ·cases h
theorem amt(a:LL P L=true):∀(n:Nat)(t:TypeId)(cs:List Value)(x:DataW H×List MemPlace),t∈L ->
  DataW.trod enc P w base (λ_=>true) true n t cs=some x->DataW.trod enc P w base (λb=>decide (b<w.heap.size)) true n t cs=some x
 |0,_,_,_,_,h=>by simp[DataW.trod]at h|n+1,t,cs,x,cf,h=>by
  rw[DataW.trod_step]at h ⊢;exact aNi a (amt a n) cf h
theorem amu(c:LL P L=true):∀{bE:List TypeId}{vs:List Value}{hz:List (DataW H)}{ps:List MemPlace},(∀t∈bE,t∈L)->DataW.TrodAll enc P w base (λ_=>true) true bE vs hz ps->DataW.TrodAll enc P w base (λb=>decide (b<w.heap.size)) true bE vs hz ps
 |[],_,_,_,_,h=>by
  obtain⟨rfl,rfl,rfl⟩:=trodAll_nil h;exact rfl
 |t::_,_,_,_,cf,h=>by
  obtain⟨v,e,d,f,a,b,rfl,rfl,rfl,⟨n,g⟩,i⟩:=trodAll_cons h;exact⟨a,b,⟨n,amt c _ _ _ _ (cf t be) g⟩,amu c (λt j=>cf t (by simp[j])) i,rfl⟩
theorem aNj(a:∀b,b<w.heap.size->w'.heap[b]?=w.heap[b]?){p:MemPlace}(ar:p.block<w.heap.size):w.sameAt w' p:=by
 cases p with
 |cell b off=>simp only[World.sameAt,World.cell?];rw[a b ar]|map b=>exact a b ar
theorem aNk{f:Func}{s:ChangeSpec}{c m e o:Bool}{W k:World}{args:Array Value}{v:Value}{hz y:List (DataW H)}{l:List MemPlace}
  (G:LL P L=true)(cf:∀t∈f.params.toList,t∈L)(B:s.vars=[])
  (C:DataW.Whole enc P f.params.toList s.vars c W args.toList hz y l)
  (D:∀(b:Nat)(u:Nat->Bool)(hd:Bool),DataW.TrodAll enc P k b u hd f.resultTypes.toList (v.resultList f.resultTypes.size) (s.fn H (hz++y)).results [])
  (J:(s.fn H (hz++y)).args=hz)(K:(s.fn H (hz++y)).vars=[])
  (E:∀b,b<W.heap.size->k.heap[b]?=W.heap[b]?)(O:k.os=W.os)(Q:k.output=W.output)
  (R:∀(j:Nat)(t:TypeId)(r:Value),f.resultTypes[j]?=some t->(v.resultList f.resultTypes.size)[j]?=some r->Value.okWide P k .any 0 t r) :
  s.post enc P f c m e o W args v k:=by
 have S:=C.lt;have T:=C;obtain⟨p,q,cE,F,rfl,V,X⟩:=C;rw[B]at F;obtain⟨rfl,rfl⟩:y=[]/\q=[]:=trodVars_none F;have z:∀x∈p,x.block<W.heap.size:=λx ah=>S x (by simp[ah])
 -- places are carried along with what is read
 have g:∀(u:Nat->Bool),DataW.TrodAll enc P W 0 u true f.params.toList args.toList hz p->DataW.TrodAll enc P k 0 u true f.params.toList args.toList hz p:=by
  intro u;generalize f.params.toList=bE;generalize args.toList=vs;revert bE vs;have key:∀(bE:List TypeId)(vs:List Value)(hz:List (DataW H))(A:List MemPlace),(∀x∈A,x.block<W.heap.size)->DataW.TrodAll enc P W 0 u true bE vs hz A->DataW.TrodAll enc P k 0 u true bE vs hz A:=by
   intro bE;induction bE with
   |nil=>intro vs hz A _ h;obtain⟨rfl,rfl,rfl⟩:=trodAll_nil h;exact rfl
   |cons t bE ih =>
    intro vs hz A ar h;obtain⟨v,Y,d,Z,a,b,rfl,rfl,rfl,⟨n,ab⟩,an⟩:=trodAll_cons h;exact⟨a,b,⟨n,DataW.trod_carry n _ _ _ ab λx ah=>aNj E (ar x (by simp only[List.mem_append];exact .inl ah))⟩,ih _ _ _ (λx ah=>ar x (by simp only[List.mem_append];exact .inr ah)) an,rfl⟩
  intro bE vs h;exact key bE vs hz p z h
 have Du:DataW.TrodAll enc P k 0 (λb=>decide (b<W.heap.size)) true f.params.toList args.toList hz p:=g _ (amu G cf cE);have lR:DataW.TrodAll enc P k 0 (λ_=>true) true f.params.toList args.toList hz p:=g _ cE;refine⟨hz,[],p++[],[],p,[],T,D _ _ _,by rw[J];exact Du,by rw[B,K];exact rfl,⟨O,Q,λi al=>?_⟩,λ_=>⟨R,_,[],([]++p)++[],⟨[]++p,[],trodAll_append lR (D _ _ _),by rw[B];exact(rfl:([]:List MemPlace)=[]),rfl,?_,?_⟩,?_⟩⟩
 ·grind
 ·intro b off ar;have:=V b off (by simpa using ar);have ae:b<W.heap.size:=z (.cell b off) (by simpa using ar);simp only[World.frozen?]at this ⊢;rw[E b ae];exact this
 ·intro aG;simpa using X aG
 ·intro x ah _;simpa using ah
end
open Go
structure nn where
 s:List UInt8
 n:Int
 a:Bool
 b:Bool
def nn.DY{H:Type}(k:nn):DataW H:=.agg [.lit (.string k.s),.lit (.int .i64 k.n),.lit (.bool k.a),.lit (.bool k.b)]
def nn.cells(k:nn):List AV:=[.str k.s,.int .i64 k.n,.bool k.a,.bool k.b]
def nn.nw(k:nn):List Value:=[.string ⟨k.s.toArray⟩,.int .i64 k.n,.bool k.a,.bool k.b]
structure LM(P:Program)(A R S rv B:TypeId)(n:Nat):Prop where
 cE:P.underlying A=some (.array n R)
 de:∃f0 f1 f2 f3:Field,P.underlying R=some (.struct #[f0,f1,f2,f3])/\f0.type=S/\f0.offset=0/\f1.type=rv/\f1.offset=1/\f2.type=B/\f2.offset=2/\f3.type=B/\f3.offset=3
 ds:P.underlying S=some .string
 gq:P.underlying rv=some (.int .i64)
 fN:P.underlying B=some .bool
 aNl:P.cellsOf A=n*4
 Hb:P.cellsOf R=4
 OM:P.cellsOf S=1
 aNm:P.cellsOf rv=1
 Lr:P.cellsOf B=1
section
variable {H:Type}{enc:TypeId×Value->H}{P:Program}{w:World}{base:Nat}{spare:Nat->Bool}{held:Bool}{A R S rv B:TypeId}{n:Nat}
variable {fuel:Nat}{cs:List Value}{ps:List MemPlace}
theorem aNn(T:LM P A R S rv B n){k:nn}(h:DataW.trod enc P w base spare held fuel R cs=some (k.DY,ps)):cs=k.nw:=by
 obtain⟨y,z,C,D,de,E,F,G,J,K,L,O,Q⟩:=T.de;obtain⟨xs,m,hm,ah,r,Z,d⟩:=DataW.trod_struct de h;rw[T.Hb]at r
 match cs,r with
 |[j3,c1,c2,gv],_ =>
  have c:=congrArg Prod.fst ah;simp only[nn.DY,DataW.agg.injEq]at c
  match xs,c with
  |[aM,x1,x2,x3],c =>
   simp only[List.map_cons,List.map_nil,List.cons.injEq,and_true]at c;obtain⟨e,f,g,j⟩:=c;have l:=d 0 y rfl;have o:=d 1 z rfl;have p:=d 2 C rfl;have q:=d 3 D rfl;rw[E,F,T.OM]at l;rw[G,J,T.aNm]at o;rw[K,L,T.Lr]at p;rw[O,Q,T.Lr]at q;simp only[List.drop_zero,List.take_succ_cons,List.take_zero,List.drop_succ_cons,List.getElem?_cons_zero,List.getElem?_cons_succ]at l o p q;obtain⟨s,t,V,_⟩:=DataW.trod_string T.ds l;obtain⟨i,u,W,_⟩:=DataW.trod_int T.gq o;obtain⟨a,v,X⟩:=DataW.trod_bool T.fN p;obtain⟨b,x,Y⟩:=DataW.trod_bool T.fN q;subst V W X Y;simp only[DataW.lit.injEq,Lit.string.injEq,Lit.int.injEq,Lit.bool.injEq,true_and]at e f g j;simp only[List.cons.injEq,and_true]at t u v x;subst t u v x;obtain⟨ks,o8,pJ,rq⟩:=k;simp only at e f g j;subst e f g j;rfl
variable {ks:List nn}
theorem aNo(T:LM P A R S rv B n)(h:DataW.trod enc P w base spare held fuel A cs=some (.agg (ks.map nn.DY),ps)) :
  cs.length=n*4/\ks.length=n/\∀(i:Nat)k,ks[i]?=some k->(cs.drop (i*4)).take 4=k.nw:=by
 obtain⟨xs,m,hm,ah,f,p,g⟩:=DataW.trod_array T.cE h;have b:=congrArg Prod.fst ah;simp only[DataW.agg.injEq]at b;have j:ks.length=n:=by have:=congrArg List.length b;simp at this;omega
 refine⟨by rw[f,T.aNl],j,λi k hk=>?_⟩;have al:i<n:=by grind
 have c:=g i al;rw[T.Hb]at c;have e:(xs.map (·.1))[i]?=some k.DY:=by rw[<-b];simp[hk]
 rw[List.getElem?_map,VX]at e;obtain⟨y,l,a⟩:=e;rw[l]at c;obtain⟨d,o⟩:=y;simp only at a;subst a;exact aNn T c
variable {γ:fA}
theorem amz{b:Nat}:∀(ks:List nn)(off:Nat),(∀k∈ks,k.s.length<=M)->(∀(i:Nat)k,ks[i]?=some k->∀j v,k.nw[j]?=some v->γ b (off+i*4+j)=some v)->fB γ b off (ks.map nn.cells).flatten
 |[],_,_,_=>.nil _ _|k::ks,off,c,h=>by
  have a:=h 0 k rfl;have d:=amz ks (off+4) (λk hk=>c k (by simp[hk])) λi e hk j v f=>by
   have:=h (i+1) e (by simpa using hk) j v f;rwa[show off+4+i*4+j=off+(i+1)*4+j by omega]
  simp only[List.map_cons,List.flatten_cons,nn.cells,List.cons_append,List.nil_append];refine .cons _ _ _ _ _ (by simpa using a 0 _ rfl) rfl (.str _ (c k be)) (.cons _ _ _ _ _ (by simpa using a 1 _ rfl) rfl (.int _ _) (.cons _ _ _ _ _ (by simpa using a 2 _ rfl) rfl (.bool _) (.cons _ _ _ _ _ (by simpa using a 3 _ rfl) rfl (.bool _) d)))
theorem aNp(T:LM P A R S rv B n){name:String}{g:Nat}{W:World}(c:P.globalNamed name=some g)(e:(P.globals[g]?).map (·.type)=some A)(a:∀k∈ks,k.s.length<=M)
  (h:laidMet P [(name,.agg (ks.map nn.DY))] W)(f:∀b o v,W.cell? ⟨b,o,none⟩=some v->γ b o=some v):fB γ g 0 (ks.map nn.cells).flatten:=by
 obtain⟨ps,⟨g',x,cs,fuel,p,q,l,m,r,hd,_,_⟩,_⟩:=h;obtain rfl:=Option.some.inj (c.symm.trans l);obtain rfl:=Option.some.inj (e.symm.trans m);obtain⟨y,z,s⟩:=aNo T hd;refine amz ks 0 a λi k hk j v d=>f _ _ _ ?_;rw[World.var?_cell c r,<-Array.getElem?_toList];have t:=s i k hk;have u:j<4:=by grind
 rw[<-t,List.getElem?_take,if_pos u,List.getElem?_drop]at d;simpa using d
end
end AM
