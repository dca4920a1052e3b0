/- An abstract machine, and what of the given program it does, part 23. Conditions: none. -/
import Derived.Test.YtanepioeppghhaaGreatDoorAm21
import Derived.OpenShut
import Derived.LaidLaws
set_option linter.unusedVariables false
namespace AM
open Go
structure mv where
 s:List UInt8
 n:Int
 a:Bool
 b:Bool
def mv.Cn{H:Type}(k:mv):DataW H:=.agg [.lit (.string k.s),.lit (.int .i64 k.n),.lit (.bool k.a),.lit (.bool k.b)]
def mv.cells(k:mv):List AV:=[.str k.s,.int .i64 k.n,.bool k.a,.bool k.b]
def mv.mE(k:mv):List Value:=[.string ⟨k.s.toArray⟩,.int .i64 k.n,.bool k.a,.bool k.b]
structure JA(P:Program)(A R S qA B:TypeId)(n:Nat):Prop where
 cq:P.underlying A=some (.array n R)
 dN:∃f0 f1 f2 f3:Field,P.underlying R=some (.struct #[f0,f1,f2,f3])/\f0.type=S/\f0.offset=0/\f1.type=qA/\f1.offset=1/\f2.type=B/\f2.offset=2/\f3.type=B/\f3.offset=3
 dg:P.underlying S=some .string
 fK:P.underlying qA=some (.int .i64)
 fl:P.underlying B=some .bool
 aF7:P.cellsOf A=n*4
 Fo:P.cellsOf R=4
 MA:P.cellsOf S=1
 aF8:P.cellsOf qA=1
 Jo:P.cellsOf B=1
section
variable {H:Type}{enc:TypeId×Value->H}{P:Program}{w:World}{base:Nat}{spare:Nat->Bool}{held:Bool}{A R S qA B:TypeId}{n:Nat}
variable {fuel:Nat}{cs:List Value}{bP:List MemPlace}
theorem aF9(T:JA P A R S qA B n){k:mv}(h:DataW.trod enc P w base spare held fuel R cs=some (k.Cn,bP)):cs=k.mE:=by
 obtain⟨x,y,z,C,dN,D,E,F,G,J,K,L,O⟩:=T.dN;obtain⟨xs,m,hm,ah,q,Y,d⟩:=DataW.trod_struct dN h;rw[T.Fo]at q
 match cs,q with
 |[Z,c1,c2,fW],_ =>
  have c:=congrArg Prod.fst ah;simp only[mv.Cn,DataW.agg.injEq]at c
  match xs,c with
  |[aO,x1,x2,x3],c =>
   simp only[List.map_cons,List.map_nil,List.cons.injEq,and_true]at c;obtain⟨e,f,g,j⟩:=c;have l:=d 0 x rfl;have o:=d 1 y rfl;have U:=d 2 z rfl;have p:=d 3 C rfl;rw[D,E,T.MA]at l;rw[F,G,T.aF8]at o;rw[J,K,T.Jo]at U;rw[L,O,T.Jo]at p;simp only[List.drop_zero,List.take_succ_cons,List.take_zero,List.drop_succ_cons,List.getElem?_cons_zero,List.getElem?_cons_succ]at l o U p;obtain⟨s,r,Q,_⟩:=DataW.trod_string T.dg l;obtain⟨i,t,V,_⟩:=DataW.trod_int T.fK o;obtain⟨a,u,W⟩:=DataW.trod_bool T.fl U;obtain⟨b,v,X⟩:=DataW.trod_bool T.fl p;subst Q V W X;simp only[DataW.lit.injEq,Lit.string.injEq,Lit.int.injEq,Lit.bool.injEq,true_and]at e f g j;simp only[List.cons.injEq,and_true]at r t u v;subst r t u v;obtain⟨ks,pX,sy,vc⟩:=k;simp only at e f g j;subst e f g j;rfl
variable {ks:List mv}
theorem aGa(T:JA P A R S qA B n)(h:DataW.trod enc P w base spare held fuel A cs=some (.agg (ks.map mv.Cn),bP)) :
  cs.length=n*4/\ks.length=n/\∀(i:Nat)k,ks[i]?=some k->(cs.drop (i*4)).take 4=k.mE:=by
 obtain⟨xs,m,hm,ah,e,o,f⟩:=DataW.trod_array T.cq h;have b:=congrArg Prod.fst ah;simp only[DataW.agg.injEq]at b;have g:ks.length=n:=by have:=congrArg List.length b;simp at this;omega
 refine⟨by rw[e,T.aF7],g,fun i k hk=>?_⟩;have ak:i<n:=by grind
 have c:=f i ak;rw[T.Fo]at c;have U:(xs.map (·.1))[i]?=some k.Cn:=by rw[<-b];simp[hk]
 rw[List.getElem?_map,Option.map_eq_some_iff]at U;obtain⟨y,j,a⟩:=U;rw[j]at c;obtain⟨d,l⟩:=y;simp only at a;subst a;exact aF9 T c
variable {γ:e4}
theorem ahm{b:Nat}:∀(ks:List mv)(off:Nat),(∀k∈ks,k.s.length<=M)->(∀(i:Nat)k,ks[i]?=some k->∀j v,k.mE[j]?=some v->γ b (off+i*4+j)=some v)->e5 γ b off (ks.map mv.cells).flatten
 |[],_,_,_=>.nil _ _|k::ks,off,c,h=>by
  have a:=h 0 k rfl;have d:=ahm ks (off+4) (fun k hk=>c k (by simp[hk])) fun i e hk j v f=>by
   have:=h (i+1) e (by simpa using hk) j v f;rwa[show off+4+i*4+j=off+(i+1)*4+j by omega]
  simp only[List.map_cons,List.flatten_cons,mv.cells,List.cons_append,List.nil_append];refine .cons _ _ _ _ _ (by simpa using a 0 _ rfl) rfl (.str _ (c k (by simp))) (.cons _ _ _ _ _ (by simpa using a 1 _ rfl) rfl (.int _ _) (.cons _ _ _ _ _ (by simpa using a 2 _ rfl) rfl (.bool _) (.cons _ _ _ _ _ (by simpa using a 3 _ rfl) rfl (.bool _) d)))
theorem aGb(T:JA P A R S qA B n){name:String}{g:Nat}{W:World}(c:P.globalNamed name=some g)(e:(P.globals[g]?).map (·.type)=some A)(a:∀k∈ks,k.s.length<=M)
  (h:laidMet P [(name,.agg (ks.map mv.Cn))] W)(f:∀b o v,W.cell? ⟨b,o,none⟩=some v->γ b o=some v):e5 γ g 0 (ks.map mv.cells).flatten:=by
 obtain⟨bP,⟨g',x,cs,fuel,p,q,l,m,r,hd,_,_⟩,_⟩:=h;obtain rfl:=Option.some.inj (c.symm.trans l);obtain rfl:=Option.some.inj (e.symm.trans m);obtain⟨y,U,s⟩:=aGa T hd;refine ahm ks 0 a fun i k hk j v d=>f _ _ _ ?_;rw[World.var?_cell c r,<-Array.getElem?_toList];have t:=s i k hk;have u:j<4:=by grind
 rw[<-t,List.getElem?_take,if_pos u,List.getElem?_drop]at d;simpa using d
end
end AM
