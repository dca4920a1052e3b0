/- An abstract machine, and what of the given program it does, part 2. Conditions: none. -/
import Derived.Test.YtanepioeppghhaaGreatDoorAm0
import Derived.Laws.StructEq
import Derived.Laws.Concat
set_option linter.unusedVariables false
namespace AM
open Bool renaming and_eq_true -> aKg
open Option renaming isSome_iff_exists -> aKh
open Go
def z6:Value->AV->Bool
 |.int k n,.int k' n'=>decide (k=k')&&n==n'|.bool b,.bool bU=>b==bU|.string s,.str l=>s.data.toList==l&&decide (l.length<=16384)|.pointer none,.eP=>true|.slice none 0 0,.list none _ []=>true|.map none,.gw=>true|.nilFunc,.ki=>true|.slice none 0 0,.aV _=>true|.nilIface,.kj=>true|_,_=>false
def const:Value->AV->Bool
 |.agg vs,.agg xs=>vs.size==xs.length&&(vs.toList.zip xs).all fun(v,x)=>z6 v x|v,x=>z6 v x
def ds:Operand->aI->Bool
 |.tmp t,.t n=>t==n|.const v,.c x=>const v x|.func f,.f n=>f==n|.global n,.g m=>n==m|_,_=>false
def cB(N:Nat)(o:Oper)(d:Nat):Bool:=o.dst==some d&&decide (d<N)
def jh(xs:List Operand)(ys:List aI):Bool:=xs.length==ys.length&&(xs.zip ys).all fun(x,y)=>ds x y
def jE(P:Program)(e sz:Nat):Bool :=
 match P.info? e with
 |some i=>i.size==sz&&decide (0<sz)&&(match i.zero with|some z=>z.cells.size==sz|none=>false)&&decide (i.bytes<=128)|none=>false
theorem JG{α β:Type}{p:α×β->Bool}:∀{xs:List α}{ys:List β},xs.length=ys.length->(xs.zip ys).all p=true->∀(i:Nat)x y,xs[i]?=some x->ys[i]?=some y->p (x,y)=true
 |[],_,_,_,i,x,y,ah,_=>by simp at ah|x::xs,[],h,_,_,_,_,_,_=>by simp at h|x::xs,y::ys,h,aE,i,a,b,ah,c=>by
  simp only[List.zip_cons_cons,List.all_cons,aKg]at aE;cases i with
  |zero=>simp at ah c;subst ah c;exact aE.1|succ i=>exact JG (by simpa using h) aE.2 i a b (by simpa using ah) (by simpa using c)
section
variable {γ:e4}
variable {v:Value}{x:AV}
theorem JH(h:z6 v x=true):df γ x v/\v.oneCell'=true:=by
 unfold z6 at h;split at h
 ·simp at h;obtain⟨rfl,rfl⟩:=h;exact⟨.int _ _,rfl⟩
 ·simp at h;subst h;exact⟨.bool _,rfl⟩
 ·rename_i s l;simp only[aKg,beq_iff_eq,decide_eq_true_eq]at h;obtain⟨a,U⟩:=h;refine⟨?_,rfl⟩;have:Value.string s=.string ⟨l.toArray⟩:=by rw[<-a]
  rw[this];exact .str l (by unfold M;omega)
 ·exact⟨.eP,rfl⟩
 ·exact⟨.jD _ _ _ (by simp),rfl⟩
 ·exact⟨.gw,rfl⟩
 ·exact⟨.ki,rfl⟩
 ·exact⟨.aV _,rfl⟩
 ·exact⟨.kj,rfl⟩
 ·cases h
theorem ahu{ws:List Value}:∀{cs:List AV},ws.length=cs.length->(∀(i:Nat)w c,ws[i]?=some w->cs[i]?=some c->df γ c w/\w.oneCell'=true)->fB γ cs ws:=by
 induction ws with
 |nil=>intro cs h _;cases cs with|nil=>exact .nil|cons=>simp at h
 |cons w ws ih =>
  intro cs h a;cases cs with
  |nil=>simp at h|cons c cs =>
   have b:=a 0 w c (by simp) (by simp);exact .cons _ _ _ _ b.2 b.1 (ih (by simpa using h) fun i w c d e=>a (i+1) w c (by simpa using d) (by simpa using e))
theorem JI(h:const v x=true):df γ x v:=by
 unfold const at h;split at h
 ·rename_i vs xs;simp only[aKg,beq_iff_eq]at h;obtain⟨a,U⟩:=h;have:vs=vs.toList.toArray:=by simp
  rw[this];exact .agg _ _ (ahu (by simpa using a) fun i w c b d=>JH (JG (by simpa using a) U i w c b d))
 ·exact(JH h).1
end
section
variable {P:Program}{gl:cp}{N:Nat}{g:bo}{s s':an}{a:Act}{w:World}{o:Oper}
variable {x:aI}
theorem c9(h:Rel P gl N g s a w){y:Operand}{u:AV}(b:ds y x=true)(he:bg gl s.env x=some u):bb g u (a.eval y):=by
 unfold ds at b;split at b
 ·rename_i t n;simp at b;subst b;simp only[bg]at he;split at he
  ·rename_i x ah;simp at he;subst he;obtain⟨v,c,U,_⟩:=h.env _ _ ah;simp[Act.eval,c,U]
  ·cases he
 ·simp only[bg]at he;simp at he;subst he;exact .pure _ _ (JI b)
 ·simp at b;subst b;simp only[bg]at he;simp at he;subst he;exact .fn _ _ _ .nil
 ·simp at b;subst b;simp only[bg]at he;exact .pure _ _ (h.gz _ _ he)
 ·cases b
theorem uD(h:Rel P gl N g s a w):∀{ys:List Operand}{xs:List aI}{us:List AV},jh ys xs=true->eG gl s.env xs=some us->cr g us (ys.map a.eval):=by
 intro ys;induction ys with
 |nil =>
  intro xs us b he;cases xs with
  |nil=>simp[eG]at he;subst he;exact .nil|cons=>simp[jh]at b
 |cons y ys ih =>
  intro xs us b he;cases xs with
  |nil=>simp[jh]at b|cons x xs =>
   simp only[jh,List.length_cons,List.zip_cons_cons,List.all_cons,aKg,beq_iff_eq]at b;simp only[eG]at he;split at he
   ·rename_i v vs c U;simp at he;subst he;exact .cons _ _ _ _ (c9 h b.2.1 c) (ih (by simp[jh,b.2.2];omega) U)
   ·cases he
def dR(P:Program)(gl:cp)(N:Nat)(o:Oper)(g:bo)(a:Act)(w:World)(s':an):Prop :=
 ∃v w' g',((execOp a.eval o).run P w=.ok (.value v) w'\/((execOp a.eval o).run P w=.ok .skip w'/\v=undef))/\ef g w g' w'/\Rel P gl N g' s' (a.put o.dst v) w'
variable {d:Nat}{x:AV}{v:Value}
theorem dR.value(h:Rel P gl N g s a w)(hd:cB N o d=true)(ao:s.put d x=some s')(b:(execOp a.eval o).run P w=.ok (.value v) w)
  (c:bb g x v)(aA:cP x):dR P gl N o g a w s':=by
 simp only[cB,aKg,beq_iff_eq,decide_eq_true_eq]at hd;refine⟨v,w,g,.inl b,ef.refl _ _,?_⟩;rw[hd.1];exact h.put ao hd.2 c aA.gb
theorem bind_some{α β:Type}{x:Option α}{f:α->Option β}{b:β}(h:x.bind f=some b):∃a,x=some a/\f a=some b:=by
 cases x with
 |none=>cases h|some a=>exact⟨a,rfl,h⟩
def z7(N:Nat)(o:Oper)(d:Nat)(x:aI):Bool:=cB N o d&&(match o.op with|.move y|.assign y=>ds y x|_=>false)
variable {x:aI}
theorem Ry(b:z7 N o d x=true):cB N o d=true/\∃y,ds y x=true/\(execOp a.eval o).run P w=.ok (.value (a.eval y)) w:=by
 simp only[z7,aKg]at b;obtain⟨hd,b⟩:=b;refine⟨hd,?_⟩;split at b
 ·rename_i y c;exact⟨y,b,by simp[execOp,c]⟩
 ·rename_i y c;exact⟨y,b,by simp[execOp,c]⟩
 ·cases b
theorem ahv(h:Rel P gl N g s a w)(b:z7 N o d x=true)(he:aH gl s (.ho d x)=some s'):dR P gl N o g a w s':=by
 obtain⟨hd,y,c,e⟩:=Ry (P:=P) (a:=a) (w:=w) b;obtain⟨u,f,U⟩:=bind_some he;exact .value h hd U e (c9 h c f).aW (cP.aW u)
theorem Rel.pass(h:Rel P gl N g s a w)(x y:ey)(ah:kH s x)(i:x≠.outer){b:Nat}(ae:g.bD b=x)(f:x≠.none) :
  ef g w { g with bD:=fun k=>if k=b then y else g.bD k } w/\Rel P gl N { g with bD:=fun k=>if k=b then y else g.bD k } s a w:=by
 have c:GhLe g { g with bD:=fun k=>if k=b then y else g.bD k }:=⟨fun _ _ _ h=>h,fun _ _ h=>h⟩;refine⟨⟨c,fun k hk=>⟨?_,rfl,fun _=>rfl⟩,Nat.le_refl _,rfl,rfl⟩,?_⟩
 ·grind
 ·refine h.step x ah c (fun k hk=>⟨?_,rfl,fun _=>rfl⟩) h.ff (fun k hk=>?_) h.fE
  ·grind
  ·by_cases e:k=b
   ·subst e;exact h.own _ (by rw[ae];exact f)
   ·simp[e]at hk;exact h.own _ hk
variable {ln iL:ey}
theorem e6.pass{x:AV}(h:e6 P g w ln x v)(b:Nat)(ae:v.ownBlock=some b) :
  e6 P { g with bD:=fun k=>if k=b then iL else g.bD k } w iL x v:=by
 intro e sz xs ah;obtain⟨i,z,vs,c,U,f,j,l,m,n,p,q⟩:=h e sz xs ah;refine⟨i,z,vs,c,U,f,j,l,m,n,p,fun k hk=>?_⟩;rw[ae]at hk;simp at hk;subst hk;exact⟨by simp,(q b ae).2⟩
theorem e6.free{x:AV}(h:e6 P g w ln x v)(ae:v.ownBlock=none):e6 P g w iL x v:=by
 intro e sz xs ah;obtain⟨i,z,vs,b,U,c,f,j,l,m,n,p⟩:=h e sz xs ah;exact⟨i,z,vs,b,U,c,f,j,l,m,n,fun k hk=>by rw[ae]at hk;cases hk⟩
theorem Rel.z8(h:Rel P gl N g s a w){x:ey}(ah:kH s x)(k:x≠.outer)(l:x≠.none){y:AV}(hd:d<N)(ao:s.put d y=some s')
  (j:bb g y v)(aA:e6 P g w x y v)(f:∃e sz xs,y=.list (some e) sz xs):∃g',ef g w g' w/\Rel P gl N g' s' (a.put (some d) v) w:=by
 cases ae:v.ownBlock with
 |none=>exact⟨g,ef.refl _ _,h.put ao hd j (aA.free ae)⟩|some b =>
  obtain⟨e,sz,xs,f⟩:=f;obtain⟨i,z,vs,p,U,q,r,t,u,A,B,m⟩:=aA e sz xs f;obtain⟨c,n⟩:=h.pass x (.var d) ah k (m b ae).1 l;exact⟨_,c,n.put ao hd (j.mono c.toGhLe) (aA.pass b ae)⟩
theorem ahw{x:Nat}(h:Rel P gl N g s a w)(l:z7 N o d (.t x)=true)(he:aH gl s (.pn d x)=some s'):dR P gl N o g a w s':=by
 obtain⟨hd,y,c,j⟩:=Ry (P:=P) (a:=a) (w:=w) l;have m:y=.tmp x:=by
  unfold ds at c;split at c<;>simp_all
 subst m;simp only[aH]at he;have f:=hd;simp only[cB,aKg,beq_iff_eq,decide_eq_true_eq]at f;split at he
 ·rename_i e sz xs ah;split at he
  ·cases he
  ·rename_i cc;obtain⟨E,b,U⟩:=bind_some he;obtain⟨n,p⟩:=h.strip ah;rw[n]at b;simp at b;subst b;obtain⟨v,q,r,u⟩:=h.env _ _ ah;have A:kH { s with env:=s.env.ins x (.v (.list none sz xs)) } (.var x) :=
    ⟨fun t z k i=>by simp at k;subst k;simp only[Env.hp]at i;simp at i;subst i;exact cP.none _ _,by simp,by simp,by simp,by simp,by simp⟩
   obtain⟨g',B,C⟩:=p.z8 A (by simp) (by simp) f.2 U r u ⟨e,sz,xs,rfl⟩;refine⟨v,w,g',.inl ?_,B,?_⟩
   ·rw[j];simp[Act.eval,q]
   ·rw[f.1];exact C
 ·rename_i v ah D;have b:bg gl s.env (.t x)=some v:=by simp[bg,D]
  exact .value h hd he j (c9 h c b).aW (cP.aW v)
 ·cases he
def JK(P:Program)(N:Nat)(o:Oper)(d e sz:Nat):Bool:=cB N o d&&jE P e sz&&(match o.op with|.move (.const (.slice none 0 0))|.assign (.const (.slice none 0 0))=>true|_=>false)
variable {e sz:Nat}
theorem Cq(h:jE P e sz=true)(g:bo)(w:World)(o:ey):e6 P g w o (.list (some e) sz []) (.slice none 0 0):=by
 intro l m xs ah;simp at ah;obtain⟨rfl,rfl,rfl⟩:=ah;unfold jE at h;split at h
 ·rename_i i ak;simp only[aKg,beq_iff_eq,decide_eq_true_eq]at h;obtain⟨⟨⟨f,U⟩,c⟩,j⟩:=h;split at c
  ·rename_i z k;simp at c;exact⟨i,z,[],ak,f,U,k,c,j,by simp,World.ownsRow_nil _ _ _ _,fun b ae=>by simp[Value.ownBlock]at ae⟩
  ·cases c
 ·cases h
theorem ahx(h:Rel P gl N g s a w)(c:JK P N o d e sz=true)(he:aH gl s (.uv d e sz)=some s'):dR P gl N o g a w s':=by
 simp only[JK,aKg]at c;obtain⟨⟨hd,hk⟩,f⟩:=c;have i:(execOp a.eval o).run P w=.ok (.value (.slice none 0 0)) w:=by
  split at f
  ·rename_i b;simp[execOp,b,Act.eval]
  ·rename_i b;simp[execOp,b,Act.eval]
  ·cases f
 simp only[cB,aKg,beq_iff_eq,decide_eq_true_eq]at hd;refine⟨_,w,g,.inl i,ef.refl _ _,?_⟩;rw[hd.1];exact h.put he hd.2 (.own _ _ _ _ (.jD _ _ _ (by simp))) (Cq hk _ _ _)
def JL(N:Nat)(o:Oper)(d:Nat)(c x y:aI):Bool:=cB N o d&&(match o.op with|.pick ia bx gR=>ds ia c&&ds bx x&&ds gR y|_=>false)
theorem bb.nV{b:Bool}(h:bb g (.bool b) v):v=.bool b:=by
 cases h with|pure _ _ h=>cases h;rfl
variable {k:IntKind}
theorem bb.jF{n:Int}(h:bb g (.int k n) v):v=.int k n:=by
 cases h with|pure _ _ h=>cases h;rfl
theorem bb.lV{l:List UInt8}(h:bb g (.str l) v):v=.string ⟨l.toArray⟩/\l.length<=M:=by
 cases h with|pure _ _ h=>cases h;exact⟨rfl,‹_›⟩
theorem ahy{c y:aI}(h:Rel P gl N g s a w)(l:JL N o d c x y=true)(he:aH gl s (.pick d c x y)=some s'):dR P gl N o g a w s':=by
 simp only[JL,aKg]at l;obtain⟨hd,b⟩:=l;split at b
 ·rename_i q r z aA;simp only[aKg]at b;obtain⟨⟨m,U⟩,n⟩:=b;simp only[aH]at he;split at he
  ·rename_i t p;have ae:=(c9 h m p).nV;split at he
   ·rename_i f;subst f;obtain⟨u,i,j⟩:=bind_some he;exact .value h hd j (by simp[execOp,aA,ae,asBool]) (c9 h U i).aW (cP.aW u)
   ·rename_i f;simp at f;subst f;obtain⟨u,i,j⟩:=bind_some he;exact .value h hd j (by simp[execOp,aA,ae,asBool]) (c9 h n i).aW (cP.aW u)
  ·cases he
 ·cases b
def JM(N:Nat)(o:Oper)(d:Nat)(x:aI):Bool:=cB N o d&&(match o.op with|.unOp .not _ bx=>ds bx x|_=>false)
theorem ahz(h:Rel P gl N g s a w)(f:JM N o d x=true)(he:aH gl s (.po d x)=some s'):dR P gl N o g a w s':=by
 simp only[JM,aKg]at f;obtain⟨hd,c⟩:=f;split at c
 ·rename_i j aA;simp only[aH]at he;split at he
  ·rename_i b ae;have i:=(c9 h c ae).nV;exact .value h hd he (by simp[execOp,aA,i,Op.unary]) (.pure _ _ (.bool _)) (fun _ _ _ h=>by simp at h)
  ·cases he
 ·cases c
def JN(N:Nat)(o:Oper)(d:Nat)(x:aI):Bool:=cB N o d&&(match o.op with|.unOp .neg _ bx=>ds bx x|_=>false)
theorem ahA(h:Rel P gl N g s a w)(c:JN N o d x=true)(he:aH gl s (.neg d x)=some s'):dR P gl N o g a w s':=by
 simp only[JN,aKg]at c;obtain⟨hd,b⟩:=c;split at b
 ·rename_i i aA;simp only[aH]at he;split at he
  ·rename_i k n ae;have f:=(c9 h b ae).jF;exact .value h hd he (by simp[execOp,aA,f,Op.unary,Op.intArith]) (.pure _ _ (.int _ _)) (fun _ _ _ h=>by simp at h)
  ·cases he
 ·cases b
def JO(P:Program)(N:Nat)(o:Oper)(d:Nat)(k:IntKind)(x:aI):Bool:=cB N o d &&
 (match o.op with|.convert Aa Ab bx=>ds bx x&&(P.underlying Aa).isSome&&(match P.underlying Ab with|some (.int k')=>decide (k'=k)|_=>false)|_=>false)
theorem ahB(h:Rel P gl N g s a w)(i:JO P N o d k x=true)(he:aH gl s (.conv d k x)=some s'):dR P gl N o g a w s':=by
 simp only[JO,aKg]at i;obtain⟨hd,b⟩:=i;split at b
 ·rename_i l m p aA;simp only[aKg]at b;obtain⟨⟨ah,az⟩,c⟩:=b;split at c
  ·rename_i q hk;simp at c;subst c;simp only[aH]at he;split at he
   ·rename_i k n ae;have j:=(c9 h ah ae).jF;obtain⟨hE,f⟩:=aKh.1 az;exact .value h hd he (by simp[execOp,aA,j,convert,run_underlying f,run_underlying hk,Conv.intToInt]) (.pure _ _ (.int _ _)) (fun _ _ _ h=>by simp at h)
   ·cases he
  ·cases c
 ·cases b
end
section
variable {P:Program}{gl:cp}{N:Nat}{g:bo}{s s':an}{a:Act}{w:World}{o:Oper}
theorem toList_mk(l:List UInt8):(ByteArray.mk l.toArray).toList=l:=by rw[ByteArray.toList_eq]
def Cr(P:Program)(t:TypeId):Nat:=match P.underlying t with|some (.int _)=>0|some .string=>1|some .bool=>2|_=>3
def Ac(P:Program):Nat->List Nat->List Field->Bool
 |_,[],[]=>true|i,k::ks,f::dm=>f.name != "_"&&f.offset==i&&decide (Cr P f.type=k)&&decide (k<3)&&Ac P (i+1) ks dm|_,_,_=>false
def RA(P:Program)(t:TypeId)(ks:List Nat):Bool :=
 match P.underlying t with
 |some (.struct dm)=>!P.stoodInHeld t&&!P.eqGuardType P.depth t&&Ac P 0 ks dm.toList|_=>false
def FM(P:Program)(m:Nat)(t:TypeId):Bool :=
 match m with
 |0=>true|2=>match P.underlying t with|some (.pointer _)=>true|_=>false
 |3=>match P.underlying t with|some .bool=>true|_=>false
 |4=>match P.underlying t with|some (.pointer e)=>(P.info? e).isSome|_=>false
 |_=>false
def JP(P:Program)(N:Nat)(o:Oper)(d m:Nat)(op:BinOp)(x y:aI):Bool:=cB N o d &&
 (match o.op with|.binOp wC t bx gR _=>decide (wC=op)&&ds bx x&&ds gR y&&FM P m t|_=>false)
theorem oH(b:Bool):cP (.bool b):=fun _ _ _ h=>by simp at h
theorem oI(k:IntKind)(n:Int):cP (.int k n):=fun _ _ _ h=>by simp at h
theorem yc(l:List UInt8):cP (.str l):=fun _ _ _ h=>by simp at h
variable {op:BinOp}{u:AV}
theorem ahD{k k':IntKind}(c:k=k'\/op=.shl\/op=.shr){x y:Int}(he:FB op k x y=some u)(t:TypeId)(xo yo:Operand) :
  ∃v,(do eqGuard op t xo yo (.int k x) (.int k' y);binOp op t (.int k x) (.int k' y):Sem Value).run P w=.ok v w/\df g.γ u v/\cP u:=by
 have d:(eqGuard op t xo yo (.int k x) (.int k' y)).run P w=.ok () w:=by cases op<;>simp[eqGuard]
 unfold FB at he;cases op<;>simp at he
 case shr =>
  simp only[zZ,Option.ite_none_right_eq_some,Option.some.injEq]at he;obtain⟨b,he⟩:=he;subst he;exact⟨_,by simp only[Sem.run_bind,d,Result.andThen_ok,binOp,Op.shift,Int.not_lt.2 b,if_false,Sem.run_pure,Int.fdiv_eq_ediv_of_nonneg _ (Int.le_of_lt (Int.pow_pos (show(0:Int)<2 by decide)))],.int _ _,oI _ _⟩
 case shl =>
  simp only[zZ,Option.ite_none_right_eq_some,Option.some.injEq]at he;obtain⟨b,he⟩:=he;subst he;exact⟨_,by simp only[Sem.run_bind,d,Result.andThen_ok,binOp,Op.shift,Int.not_lt.2 b,if_false,Sem.run_pure],.int _ _,oI _ _⟩
 all_goals (rcases c with c|c|c<;>first|(cases c;done)|subst c)
 case quo =>
  obtain⟨b,he⟩:=he;subst he;exact⟨_,by simp[d,binOp,Op.intDiv,b],.int _ _,oI _ _⟩
 case rem =>
  obtain⟨b,he⟩:=he;subst he;exact⟨_,by simp[d,binOp,Op.intDiv,b],.int _ _,oI _ _⟩
 all_goals
  subst he;simp only[Sem.run_bind,d,Result.andThen_ok,binOp,ne_eq,not_true_eq_false,if_false,Op.intArith,Op.intCmp,Op.intBits,Sem.run_pure];first
   |exact⟨_,rfl,.int _ _,oI _ _⟩|exact⟨_,rfl,.bool _,oH _⟩
theorem ahE{x y:List UInt8}(he:FC op x y=some u)(t:TypeId)(xo yo:Operand) :
  ∃v,(do eqGuard op t xo yo (.string ⟨x.toArray⟩) (.string ⟨y.toArray⟩);binOp op t (.string ⟨x.toArray⟩) (.string ⟨y.toArray⟩):Sem Value).run P w=.ok v w/\df g.γ u v/\cP u:=by
 have b:(eqGuard op t xo yo (.string ⟨x.toArray⟩) (.string ⟨y.toArray⟩)).run P w=.ok () w:=by cases op<;>simp[eqGuard]
 unfold FC at he;cases op<;>simp at he
 case add =>
  obtain⟨c,he⟩:=he;subst he;refine⟨.string ⟨(x++y).toArray⟩,?_,.str _ (by simpa using c),yc _⟩;have d:(ByteArray.mk x.toArray).size+(ByteArray.mk y.toArray).size<=9223372036854775807:=by
   have:(ByteArray.mk x.toArray).size=x.length:=by simp[ByteArray.size]
   have:(ByteArray.mk y.toArray).size=y.length:=by simp[ByteArray.size]
   unfold M at c;omega
  have U:(ByteArray.mk x.toArray++ByteArray.mk y.toArray)=ByteArray.mk (x++y).toArray:=by
   apply ByteArray.ext;simp
  simp only[Sem.run_bind,b,Result.andThen_ok,binOp,run_string_add_sum w _ _ d,U]
 all_goals
  subst he;simp only[Sem.run_bind,b,Result.andThen_ok,binOp,Op.stringOp,Sem.run_pure,toList_mk,Bool.not_or];first
   |exact⟨_,rfl,.bool _,oH _⟩|exact⟨_,rfl,by simpa using df.bool _,oH _⟩
variable {cs:List AV}{v:Value}
theorem bb.nW(h:bb g (.agg cs) v):∃ws,v=.agg ws.toArray/\cr g cs ws/\∀x∈ws,x.oneCell'=true:=by
 cases h with
 |pure _ _ h =>
  cases h with
  |agg _ ws h =>
   refine⟨ws,rfl,?_⟩;induction ws generalizing cs with
   |nil=>cases h;exact⟨.nil,by simp⟩|cons w ws ih =>
    cases h with
    |cons c cs _ _ h1 U b =>
     obtain⟨d,e⟩:=ih b;exact⟨.cons _ _ _ _ (.pure _ _ U) d,by simpa[h1]using e⟩
 |agg _ ws h h1=>exact⟨ws,rfl,h,h1⟩
theorem cr.get{ws:List Value}(h:cr g cs ws):ws.length=cs.length/\∀(i:Nat)c,cs[i]?=some c->∃v,ws[i]?=some v/\bb g c v:=by
 induction ws generalizing cs with
 |nil=>cases h;simp|cons w ws ih =>
  cases h with
  |cons c cs _ _ h1 U=>grind
theorem bb.sh{id off:Nat}(h:bb g (.ptr id off) v):∃b,g.b4 id=some b/\v=ptrTo b off:=by
 cases h with
 |ptr _ _ b h=>exact⟨b,h,rfl⟩|pure _ _ h=>cases h
theorem bb.Cs(h:bb g .eP v):v=.pointer none:=by
 cases h with|pure _ _ h=>cases h;rfl
variable {t:TypeId}
theorem run_equal_bool(b:P.underlying t=some .bool)(x y:Bool):(Op.equal t (.bool x) (.bool y)).run P w=.ok (x==y) w :=
 run_equalIn_bool' w 9999 t x y b
variable {e:TypeId}
theorem ahF(d:Nat)(c:P.underlying t=some (.pointer e))(b:Option Addr):(Op.equalIn (d+1) t (.pointer none) (.pointer b)).run P w=.ok b.isNone w:=by
 simp[Op.equalIn,run_underlying c]
theorem ahG(d:Nat)(c:P.underlying t=some (.pointer e))(b:Addr):(Op.equalIn (d+1) t (.pointer (some b)) (.pointer none)).run P w=.ok false w:=by
 simp[Op.equalIn,run_underlying c]
theorem ahH(c:P.underlying t=some (.pointer e))(b:Option Addr):(Op.equal t (.pointer none) (.pointer b)).run P w=.ok b.isNone w :=
 ahF 9999 c b
theorem ahI(c:P.underlying t=some (.pointer e))(b:Addr):(Op.equal t (.pointer (some b)) (.pointer none)).run P w=.ok false w :=
 ahG 9999 c b
variable {x y:Value}{xo yo:Operand}{r:Bool}
theorem Ct(b:(eqGuard .eql t xo yo x y).run P w=.ok () w)
  (ae:binOp .eql t x y=Value.bool <$> Op.equal t x y)(he:(Op.equal t x y).run P w=.ok r w) :
  (do eqGuard .eql t xo yo x y;binOp .eql t x y:Sem Value).run P w=.ok (.bool r) w:=by
 rw[Sem.run_bind,b,Result.andThen_ok,ae,Sem.run_map,he];rfl
theorem Cu(b:(eqGuard .neq t xo yo x y).run P w=.ok () w)
  (ae:binOp .neq t x y=(fun a=>Value.bool !a) <$> Op.equal t x y)(he:(Op.equal t x y).run P w=.ok r w) :
  (do eqGuard .neq t xo yo x y;binOp .neq t x y:Sem Value).run P w=.ok (.bool (!r)) w:=by
 rw[Sem.run_bind,b,Result.andThen_ok,ae,Sem.run_map,he];rfl
theorem ahJ{b c:Bool}(d:P.underlying t=some .bool)(xo yo:Operand)
  (he:(match op with|.eql=>some (AV.bool (b==c))|.neq=>some (AV.bool (!(b==c)))|_=>none)=some u) :
  ∃v,(do eqGuard op t xo yo (.bool b) (.bool c);binOp op t (.bool b) (.bool c):Sem Value).run P w=.ok v w/\df g.γ u v/\cP u:=by
 split at he
 ·simp at he;subst he;exact⟨_,Ct (by simp[eqGuard]) (by simp[binOp]) (run_equal_bool d b c),.bool _,oH _⟩
 ·simp at he;subst he;exact⟨_,Cu (by simp[eqGuard]) (by simp[binOp]) (run_equal_bool d b c),by simpa using df.bool _,oH _⟩
 ·cases he
theorem JQ{d c:Option Addr}(f:P.underlying t=some (.pointer e))(xo yo:Operand)
  (ao:(d=none/\r=c.isNone)\/(d.isSome/\c=none/\r=false))
  (he:(match op with|.eql=>some (AV.bool r)|.neq=>some (AV.bool (!r))|_=>none)=some u) :
  ∃v,(do eqGuard op t xo yo (.pointer d) (.pointer c);binOp op t (.pointer d) (.pointer c):Sem Value).run P w=.ok v w/\df g.γ u v/\cP u:=by
 have h:(Op.equal t (.pointer d) (.pointer c)).run P w=.ok r w:=by
  rcases ao with⟨rfl,rfl⟩|⟨i,rfl,rfl⟩
  ·exact ahH f c
  ·obtain⟨b,rfl⟩:=aKh.1 i;exact ahI f b
 split at he
 ·simp at he;subst he;exact⟨_,Ct (by simp[eqGuard]) (by simp[binOp]) h,.bool _,oH _⟩
 ·simp at he;subst he;exact⟨_,Cu (by simp[eqGuard]) (by simp[binOp]) h,by simpa using df.bool _,oH _⟩
 ·cases he
theorem ahK(d:Nat)(c:P.underlying t=some (.pointer e))(he:(P.info? e).isSome=true)(b:Addr):(Op.equalIn (d+1) t (.pointer (some b)) (.pointer (some b))).run P w=.ok true w:=by
 obtain⟨i,ak⟩:=aKh.1 he;have h:(sameAddr b b).run P w=.ok true w:=by simp[sameAddr]
 by_cases f:i.size=0
 ·simp[Op.equalIn,run_underlying c,Go.sizeOf,typeInfo,ak,f]
 ·simp[Op.equalIn,run_underlying c,Go.sizeOf,typeInfo,ak,f,h]
theorem RB(c:P.underlying t=some (.pointer e))(he:(P.info? e).isSome=true)(b:Addr):(Op.equal t (.pointer (some b)) (.pointer (some b))).run P w=.ok true w :=
 ahK 9999 c he b
theorem ahL{p:Addr}(b:P.underlying t=some (.pointer e))(ak:(P.info? e).isSome=true)(xo yo:Operand)
  (he:(match op with|.eql=>some (AV.bool true)|.neq=>some (AV.bool false)|_=>none)=some u) :
  ∃v,(do eqGuard op t xo yo (.pointer (some p)) (.pointer (some p));binOp op t (.pointer (some p)) (.pointer (some p)):Sem Value).run P w=.ok v w/\df g.γ u v/\cP u:=by
 split at he
 ·simp at he;subst he;exact⟨_,Ct (by simp[eqGuard]) (by simp[binOp]) (RB b ak p),.bool _,oH _⟩
 ·simp at he;subst he;exact⟨_,Cu (by simp[eqGuard]) (by simp[binOp]) (RB b ak p),by simpa using df.bool _,oH _⟩
 ·cases he
theorem RC(f:Cr P t<3){cs:Array Value}{i:Nat}{c:Value}(d:cs[i]?=some c):(part t cs i).run P w=.ok c w:=by
 unfold Cr at f;split at f
 ·rename_i k b;simp[part,isAgg,run_underlying b,d]
 ·rename_i b;simp[part,isAgg,run_underlying b,d]
 ·rename_i b;simp[part,isAgg,run_underlying b,d]
 ·omega
theorem ahM{x y:AV}{u:Value}(h:qj x y=some r)(ah:bb g x u)(i:bb g y v)(c:nd x=Cr P t)(d:Nat) :
  (Op.equalIn (d+1) t u v).run P w=.ok r w:=by
 unfold qj at h;unfold Cr at c;split at h
 ·simp at h;subst h;rw[ah.nV,i.nV];simp only[nd]at c;split at c<;>simp at c;rename_i f;exact run_equalIn_bool' w d t _ _ f
 ·split at h
  ·rename_i k a j b hk;subst hk;simp at h;subst h;rw[ah.jF,i.jF];simp only[nd]at c;split at c<;>simp at c;rename_i f;exact run_equalIn_int w d t _ _ _ _ f
  ·cases h
 ·simp at h;subst h;rw[ah.lV.1,i.lV.1];simp only[nd]at c;split at c<;>simp at c;rename_i f;rw[run_equalIn_string w d t _ _ f,toList_mk,toList_mk]
 ·cases h
theorem ahN(A B:Array Value)(d:Nat):∀(b:List Field)(ks:List Nat)(k:Nat)(xs ys:List AV)(us vs:List Value)(r:Bool),Ac P k ks b=true ->
  uy ks xs ys=some r->cr g xs us->cr g ys vs->(∀i,A[k+i]?=us[i]?)->(∀i,B[k+i]?=vs[i]?)->(Op.eqFields (d+1) A B b).run P w=.ok r w:=by
 intro b;induction b with
 |nil =>
  intro ks k xs ys us vs r c he _ _ _ _;cases ks with
  |cons=>simp[Ac]at c|nil =>
   cases xs<;>cases ys<;>simp[uy]at he;subst he;simp[Op.eqFields]
 |cons f b ih =>
  intro ks k xs ys us vs r c he ah l cq fl;cases ks with
  |nil=>simp[Ac]at c|cons kk ks =>
   simp only[Ac,aKg,bne_iff_ne,beq_iff_eq,decide_eq_true_eq]at c;obtain⟨⟨⟨⟨m,U⟩,L⟩,O⟩,n⟩:=c;cases xs with
   |nil=>simp[uy]at he|cons x xs=>cases ys with
    |nil=>simp[uy]at he|cons y ys =>
     simp only[uy]at he;split at he
     ·rename_i hk;split at he
      ·rename_i p q z C;simp at he;subst he;cases ah with
       |cons _ _ u us hu D=>cases l with
        |cons _ _ v vs E F =>
         have h:=cq 0;have j:=fl 0;simp only[Nat.add_zero,List.getElem?_cons_zero]at h j;have G:(part f.type A f.offset).run P w=.ok u w:=by rw[U];exact RC (by omega) h
         have H:(part f.type B f.offset).run P w=.ok v w:=by rw[U];exact RC (by omega) j
         have J:=ahM (P:=P) (w:=w) z hu E (t:=f.type) (by omega) d;have K:=ih ks (k+1) xs ys us vs q n C D F (fun i=>by have:=cq (i+1);simpa[Nat.add_assoc,Nat.add_comm 1 i]using this)
          (fun i=>by have:=fl (i+1);simpa[Nat.add_assoc,Nat.add_comm 1 i]using this)
         simp only[Op.eqFields,m,ne_eq,not_false_eq_true,if_true,Sem.run_bind,G,Result.andThen_ok,H,J];cases p
         ·simp
         ·simp[K]
      ·cases he
     ·cases he
def JR(P:Program)(N:Nat)(o:Oper)(d:Nat)(ne:Bool)(ks:List Nat)(x y:aI):Bool:=cB N o d &&
 (match o.op with|.binOp op t bx gR _=>decide (op=if ne=true then .neq else .eql)&&ds bx x&&ds gR y&&RA P t ks|_=>false)
theorem run_eqGuard_agg{x y:Operand}{A B:Array Value}(h:P.eqGuardType P.depth t=false):(eqGuard op t x y (.agg A) (.agg B)).run P w=.ok () w:=by
 cases op<;>simp[eqGuard,run_program,h]
variable {d:Nat}
theorem ahO{ne:Bool}{ks:List Nat}{x y:aI}(h:Rel P gl N g s a w)(i:JR P N o d ne ks x y=true)(he:aH gl s (.td d ne ks x y)=some s'):dR P gl N o g a w s':=by
 simp only[JR,aKg]at i;obtain⟨hd,c⟩:=i;split at c
 ·rename_i G t H J _ aA;simp only[aKg,decide_eq_true_eq]at c;obtain⟨⟨⟨f,ah⟩,z⟩,b⟩:=c;unfold RA at b;split at b
  ·rename_i j k;simp only[aKg,Bool.not_eq_true']at b;obtain⟨⟨A,l⟩,B⟩:=b;simp only[aH]at he;split at he
   ·rename_i xs C D U;obtain⟨r,ae,ao⟩:=bind_some he;obtain⟨us,m,E,_⟩:=(c9 h ah D).nW;obtain⟨vs,n,F,_⟩:=(c9 h z U).nW;have p:P.fieldsOf t=j:=by simp[Program.fieldsOf,k]
    have q:(Op.equal t (.agg us.toArray) (.agg vs.toArray)).run P w=.ok r w:=by
     show(Op.equalIn (9999+1) t _ _).run P w=_;rw[run_equalIn_struct w 9999 t _ _ (by rw[p];exact k) A,p];exact ahN _ _ 9998 j.toList ks 0 xs C us vs r B ae E F (by simp) (by simp)
    refine .value h hd ao (v:=.bool (if ne=true then !r else r)) ?_ (.pure _ _ (.bool _)) (oH _);cases ne with
    |false =>
     simp at f;subst f;simp only[execOp,aA,m,n];rw[Sem.run_bind,Ct (run_eqGuard_agg l) (by simp[binOp]) q];rfl
    |true =>
     simp at f;subst f;simp only[execOp,aA,m,n];rw[Sem.run_bind,Cu (run_eqGuard_agg l) (by simp[binOp]) q];rfl
   ·cases he
  ·cases b
 ·cases c
theorem ahP{m:Nat}{x y:aI}(h:Rel P gl N g s a w)(E:JP P N o d m op x y=true)(he:aH gl s (.bin d m op x y)=some s'):dR P gl N o g a w s':=by
 simp only[JP,aKg]at E;obtain⟨hd,z⟩:=E;split at z
 ·rename_i n t f i _ aA;simp only[aKg,decide_eq_true_eq]at z;obtain⟨⟨⟨rfl,ah⟩,F⟩,j⟩:=z;simp only[aH]at he;split at he
  ·rename_i R S G U;obtain⟨u,ae,ao⟩:=bind_some he;have k:=c9 h ah G;have l:=c9 h F U;suffices ∃v,(do eqGuard n t f i (a.eval f) (a.eval i);binOp n t (a.eval f) (a.eval i):Sem Value).run P w=.ok v w/\df g.γ u v/\cP u by
    obtain⟨v,H,J,K⟩:=this;exact .value h hd ao (by simp only[execOp,aA];rw[Sem.run_bind,H];rfl) (.pure _ _ J) K
   have A:m=2->∃e,P.underlying t=some (.pointer e):=by
    rintro rfl;simp only[FM]at j;split at j
    ·rename_i e c;exact⟨e,c⟩
    ·cases j
   have B:m=4->∃e,P.underlying t=some (.pointer e)/\(P.info? e).isSome=true:=by
    rintro rfl;simp only[FM]at j;split at j
    ·rename_i e c;exact⟨e,c,j⟩
    ·cases j
   unfold FD at ae;split at ae
   ·split at ae
    ·rename_i hk;obtain⟨_,hk⟩:=hk;rw[k.jF,l.jF];exact ahD hk ae t f i
    ·cases ae
   ·split at ae
    ·rw[k.lV.1,l.lV.1];exact ahE ae t f i
    ·cases ae
   ·rename_i T V;split at ae
    ·rename_i L;subst L;simp only[FM]at j;split at j
     ·rename_i c;rw[k.nV,l.nV];exact ahJ c f i ae
     ·cases j
    ·cases ae
   ·split at ae
    ·rename_i p;obtain⟨e,c⟩:=A p;rw[k.Cs,l.Cs];exact JQ (r:=true) c f i (.inl ⟨rfl,rfl⟩) (by cases n<;>simp_all)
    ·cases ae
   ·split at ae
    ·rename_i p;obtain⟨e,c⟩:=A p;obtain⟨b,_,q⟩:=l.sh;rw[k.Cs,q];exact JQ (r:=false) c f i (.inl ⟨rfl,rfl⟩) (by cases n<;>simp_all)
    ·cases ae
   ·split at ae
    ·rename_i C;obtain⟨C,rfl,rfl⟩:=C;obtain⟨e,c,ak⟩:=B C;obtain⟨b,O,q⟩:=k.sh;obtain⟨W,D,Q⟩:=l.sh;rw[O]at D;simp at D;subst D;rw[q,Q];exact ahL c ak f i ae
    ·cases ae
   ·split at ae
    ·rename_i p;obtain⟨e,c⟩:=A p;obtain⟨b,_,q⟩:=k.sh;rw[l.Cs,q];exact JQ (r:=false) c f i (.inr ⟨rfl,rfl,rfl⟩) (by cases n<;>simp_all)
    ·cases ae
   ·cases ae
  ·cases he
 ·cases z
end
end AM
