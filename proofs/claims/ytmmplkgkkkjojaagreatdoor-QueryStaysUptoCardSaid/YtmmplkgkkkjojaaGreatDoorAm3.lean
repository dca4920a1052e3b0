/- An abstract machine, and what of the given program it does, part 4. Conditions: none. -/
import Derived.Test.YtmmplkgkkkjojaaGreatDoorAm2
import Derived.Lib.Builder
import Derived.CheckFast
import Derived.Orders
set_option linter.unusedSimpArgs false
set_option linter.unusedVariables false
namespace AM
open Bool renaming and_eq_true -> aKB,false_eq_true -> aKG,or_eq_true -> aKL
open List renaming mem_of_getElem? -> aKC,mem_cons -> aKD,replicate -> aKE,length_cons -> aKH,map_cons -> aKJ,filterMap_cons -> aKK,all_eq_true -> aKO,mem_range -> aKP,getElem?_cons_zero -> aKR,getElem?_set_ne -> aKS
open Option renaming bind_some -> aKF,map_eq_some_iff -> aKN
open Array renaming getD_eq_getD_getElem? -> aKI,getElem?_toList -> aKM,getElem?_eq_some_iff -> aKQ
open Go
section
variable {P:Program}{gl:cQ}{N:Nat}{g g':bD}{s s':au}{a:Act}{w w':World}{o:Oper}
def NB(P:Program)(N:Nat)(o:Oper)(d e:Nat)(z:List AV):Bool:=cZ N o d&&(match o.op with|.alloc cB=>cB==e&&zu P e z&&ko P e z.length|_=>false)
variable {d e:Nat}
theorem apl{z:List AV}(h:Rel P gl N g s a w)(j:NB P N o d e z=true)(he:aJ gl s (.vy d e z)=some s'):eu P gl N o g a w s':=by
 simp only[NB,aKB]at j;obtain⟨hd,b⟩:=j;split at b
 ·rename_i n aE;simp only[aKB,beq_iff_eq]at b;obtain⟨⟨rfl,p⟩,k⟩:=b;obtain⟨i,v,c,f,q,r,t⟩:=Bx (g:=g) p;obtain⟨C,u,l,D,E,m,x,F⟩:=ra k;rw[l]at c;simp at c;subst c;rw[m]at f;simp at f;subst f;simp only[aJ]at he;simp only[cZ,aKB,beq_iff_eq,decide_eq_true_eq]at hd;obtain⟨g',y,A,B,_⟩:=h.MQ k q r t (by rw[Array.length_toList,x];exact Nat.le_mul_of_pos_left _ dw);refine⟨ptrTo w.heap.size 0,w.alloc (.cells u.cells n),g',.inl ?_,by simpa using y,?_⟩
  ·simp only[execOp,aE,Sem.run_bind,HO l m,Result.andThen_ok,Sem.run_pure]
  ·rw[hd.1];have:=A.put he hd.2 (.ptr _ 0 _ B) (vM _ _).gG;simpa[ptrTo]using this
 ·cases b
theorem apm{P:Program}{c:Nat}(b:P.cellsOf e≠0)(f:1<=c):liesAt P P.depth e c 0 e 1=true:=by
 have hd:P.depth=(2*(P.types.size+Made.depth)+1)+1:=rfl;rw[hd];unfold liesAt;have ax:sameLayout P P.depth e e=true:=by
  rw[hd];unfold sameLayout;simp
 have:rowAt P (λt=>sameLayout P P.depth t e) P.depth e c 0 1=true:=by
  conv=>lhs;rw[show P.depth=(2*(P.types.size+Made.depth)+1)+1 from rfl]
  unfold rowAt;rw[<-hd];simp[b,ax,f]
 rw[this];rfl
def NC(P:Program)(N:Nat)(o:Oper)(d:Nat)(x:aL)(e sz:Nat):Bool:=cZ N o d&&ko P e sz&&(match o.op with
 |.convert Bq Br bK=>dJ bK x&&(match P.underlying Bq,P.underlying Br with|some (.pointer u),some .unsafePointer=>u==e|some .unsafePointer,some (.pointer u)=>u==e|_,_=>false)|_=>false)
theorem apn{sz:Nat}{x:aL}(h:Rel P gl N g s a w)(r:NC P N o d x e sz=true)(he:aJ gl s (.r4 d x e sz)=some s'):eu P gl N o g a w s':=by
 simp only[NC,aKB]at r;obtain⟨⟨hd,F⟩,f⟩:=r;obtain⟨i,z,j,G,H,X,Y,Z⟩:=ra F;simp only[aJ]at he;split at he
 ·rename_i id ah;split at he
  ·rename_i t cs J;split at he
   ·rename_i K;obtain⟨rfl,fY⟩:=K;obtain⟨b,k,y,av,L,⟨arr,A,ev⟩,_⟩:=h.heap _ _ J;have B:cs.length<=arr.size:=by
     obtain⟨C,ty,l,O,_⟩:=L;rw[A]at l;simp at l;rw[l.1];exact O
    have D:w.shape? b=some (t,arr.size):=by simp[World.shape?,A]
    split at f
    ·rename_i Q R E aE;simp only[aKB]at f;obtain⟨S,c⟩:=f;have m:=dk h S ah;have T:a.eval E=ptrTo b 0:=by
      revert m;generalize a.eval E=v;intro m;cases m with
      |pure _ _ ar=>cases ar|ptr _ _ b5 n=>rw[y]at n;simp at n;subst n;rfl
     have V:P.cellsOf t=sz:=by simp[Program.cellsOf,j,G]
     have W:(convert Q R (.pointer (some ⟨b,0,none⟩))).run P w=.ok (.pointer (some ⟨b,0,none⟩)) w:=by
      split at c
      ·rename_i u p q;simp at c;subst c;exact Lib.run_to_unsafe w ⟨b,0,none⟩ p q j am D (by show 0<arr.size;omega)
      ·rename_i u p q;simp at c;subst c;refine Lib.run_from_unsafe w ⟨b,0,none⟩ p q j D (apm am ?_);rw[V];exact(Nat.one_le_div_iff H).2 am
      ·cases c
     refine .value h hd he (v:=ptrTo b 0) ?_ (.ptr _ 0 _ y) (λ_ _ _ h=>f9);simp only[execOp,aE,Sem.run_bind,T,ptrTo,W,Result.andThen_ok,Sem.run_pure]
    ·cases f
   ·cases he
  ·cases he
 ·cases he
end
section
variable {P:Program}{gl:cQ}{N:Nat}{g g':bD}{s s':au}{a:Act}{w w':World}{o:Oper}
def ND(P:Program)(o:Oper)(e:Nat)(z:List AV)(x:aL):Bool:=o.dst==none &&
 (match th o.op with|some (.clear,[bK],[t])=>dJ bK x&&zv P t e z.length&&zu P e z|_=>false)
variable {t ty e:TypeId}{cap:Nat}
theorem apo{base:Option Addr}(b:P.underlying t=some (.slice e)):(Builtin.clear_ #[t] ty #[.slice base 0 cap]).run P w=.ok (.tuple #[]) w:=by
 unfold Builtin.clear_;simp only[List.getElem?_toArray,aKR,Sem.run_bind,run_underlying b,Result.andThen_ok];cases base<;>simp[Sem.run_pure]
variable {n:Nat}
theorem apq{i:TypeInfo}{c:Value}{b off:Nat}(d:P.underlying t=some (.slice e))(al:P.info? e=some i)(f:i.zero=some c)(j:n≠0)
  (h:(storeCells ⟨b,off,none⟩ (Builtin.zeroCells c.cells n).toList).run P w=.ok () w'):(Builtin.clear_ #[t] ty #[.slice (some ⟨b,off,none⟩) n cap]).run P w=.ok (.tuple #[]) w':=by
 obtain⟨n,rfl⟩:∃m,n=m+1:=⟨n-1,am⟩;unfold Builtin.clear_;simp only[List.getElem?_toArray,aKR,Sem.run_bind,run_underlying d,Result.andThen_ok];simp only[zeroValue,typeInfo,run_program,al,f,Sem.run_bind,Result.andThen_ok,Sem.run_pure,h]
variable {x:aL}
theorem apr{e:Nat}{z:List AV}(h:Rel P gl N g s a w)(d:ND P o e z x=true)(he:aJ gl s (.s9 e z x)=some s'):eu P gl N o g a w s':=by
 simp only[ND,aKB,beq_iff_eq]at d;obtain⟨hd,y⟩:=d;split at y
 ·rename_i V t aE;simp only[aKB]at y;obtain⟨⟨ah,hk⟩,A⟩:=y;obtain⟨f,W⟩:=Eh hk;obtain⟨i,m,G,b8,B,H,C,hA⟩:=ra W;obtain⟨oQ,v,D,E,X,Y,Z⟩:=Bx (g:=g) A;rw[G]at D;simp at D;subst D;rw[H]at E;simp at E;subst E;obtain⟨xK,J⟩:=vI (o:=o) aE rfl a.eval;have K:∀v,a.put o.dst v=a:=λv=>by rw[hd];rfl
  have L:∀{base cap},a.eval V=.slice base 0 cap->eu P gl N o g a w s:=λ{base cap}F=>by
   refine⟨.tuple #[],w,g,.inl ?_,eL.refl _ _,by rw[K];exact h⟩;rw[J];simp only[builtin,aKJ,List.map_nil,F,Sem.run_bind,apo f,Result.andThen_ok,Sem.run_pure]
  simp only[aJ]at he;split at he
  ·rename_i id off n sz r;obtain⟨b,k,cap,aj,av,aQ,bG,ev⟩:=(dk h ah r).ti;split at he
   ·rename_i aI;obtain⟨U3,x6⟩:=aI;have O:(Builtin.zeroCells m.cells n).toList.length=n*z.length:=by simp[Builtin.zeroCells,C]
    have j1:(aKE n z).flatten.length=n*z.length:=by simp
    have Q:∀j,j<n*z.length->(Builtin.zeroCells m.cells n).toList[j]?=m.cells[j % z.length]?/\(aKE n z).flatten[j]?=z[j % z.length]?:=λj q=>by
     refine⟨?_,MR z B _ _ q⟩;have bJ:j % z.length<m.cells.size:=by rw[C];exact Nat.mod_lt _ B
     rw[aKM];simp only[Builtin.zeroCells];rw[Array.getElem?_map,Array.getElem?_range];simp[C,q,Nat.mod_lt _ B]
    have hN:cS g (aKE n z).flatten (Builtin.zeroCells m.cells n).toList:=by
     refine .HI (by rw[O,j1]) λj c u d f=>?_;have q:j<n*z.length:=by grind
     obtain⟨m1,m2⟩:=Q j q;rw[m2]at d;rw[m1]at f;obtain⟨k9,ba,dN⟩:=X.get.2 _ _ d;rw[aKM,f]at ba;simp at ba;subst ba;exact dN
    have mI:∀u∈(Builtin.zeroCells m.cells n).toList,u.oneCell'=true:=λu f=>by
     obtain⟨j,q,MT⟩:=List.getElem_of_mem f;have se:j<n*z.length:=by rw[<-O];exact q
     have R:(Builtin.zeroCells m.cells n).toList[j]?=some u:=by rw[List.getElem?_eq_getElem q,MT]
     rw[(Q j se).1]at R;exact Y u (aKC (by rw[aKM];exact R))
    have l5:∀c∈(aKE n z).flatten,cY c:=λc d=>by
     obtain⟨l,aC,S⟩:=List.mem_flatten.1 d;rw[List.eq_of_mem_replicate aC]at S;exact Z c S
    obtain⟨b5,q9,w',T,s2,j2,rl⟩:=Ms h (v:=ptrTo b off) (p:=.ar id off) ⟨b,aj,rfl⟩ hN mI (λj c u d _=>(l5 c (aKC d)).gG) he;simp[ptrTo]at T;obtain⟨rfl,rfl⟩:=T;refine⟨.tuple #[],w',g,.inl ?_,j2,by rw[K];exact rl⟩;rw[J];simp only[builtin,aKJ,List.map_nil,ev,Sem.run_bind,apq f G H (show n≠0 by omega) s2,Result.andThen_ok,Sem.run_pure]
   ·grind
  ·rename_i dA sz r;simp at he;subst he;obtain⟨base,cap,F,_⟩:=(dk h ah r).zq;exact L F
  ·rename_i sz r;simp at he;subst he;exact L ((dk h ah r).uz)
  ·cases he
 ·cases y
theorem apt{b:Bool}{v:aL}(h:Rel P gl N g s a w)(j:vR P o n x v=true)(he:aJ gl s (.lW b n x v)=some s'):eu P gl N o g a w s':=by
 refine UN (n:=n) (x:=x) (v:=v) h j ?_;simp only[aJ,aKN]at he;obtain⟨H,he,rfl⟩:=he;unfold qe at he;split at he
 ·rename_i id off u d r;have aG:eQ gl s.env x=some (.ar id off):=by
   cases x with
   |t k =>
    simp only[br]at d;split at d
    ·rename_i y z;simp only[Option.some.injEq]at d;subst d;simp only[eQ,z]
    ·cases d
   |c y =>
    exfalso;simp only[vR,aKB]at j;obtain⟨_,i⟩:=j;simp only[br,Option.some.injEq]at d;subst d;split at i
    ·rename_i t A C aE;simp only[aKB]at i;have:=i.1.1;cases A with
     |const y=>cases y<;>simp[dJ,const,Bn]at this|_=>simp[dJ]at this
    ·cases i
   |f k=>simp[br]at d|g k =>
    exfalso;simp only[br]at d;have:=h.hf k _ d;cases this
  simp only[aJ,aG,r,aKF];split at he
  ·rename_i cs l;split at he
   ·rename_i m;obtain⟨_,p,q,B⟩:=m;simp only[Option.some.injEq]at he;subst he;rw[if_pos ⟨p,q⟩];simp only[bb,l,List.length_map];rw[if_pos am]
   ·cases he
  ·rename_i e cs l;split at he
   ·rename_i m;obtain⟨_,p,q,B⟩:=m;simp only[Option.some.injEq]at he;subst he;rw[if_pos ⟨p,q⟩];simp only[bb,l,List.length_map];rw[if_pos am]
   ·cases he
  ·cases he
 ·cases he
end
def AV.arg:AV->Bool
 |.fn _ cs=>cs.all AV.eH|x=>x.pure
def BU(γ:fA):bD:=⟨γ,λ_=>.none,λ_=>none⟩
def we(γ:fA)(n:Nat):bD:=⟨γ,λb=>if b<n then .outer else .var 0,λ_=>none⟩
def apu(P:Program)(γ:fA)(w:World)(r:AV)(e:Ending)(w':World):Prop :=
 ∃v fm,e=.returned v/\xH γ fm/\w.heap.size<=w'.heap.size/\(∀b,b<w.heap.size->w'.heap[b]?=w.heap[b]?/\∀o,fm b o=γ b o)/\((w'.os,w'.tape)=(w.os,w.tape)/\w'.output=w.output) /\
  (∀b off v,fm b off=some v->w'.cell? ⟨b,off,none⟩=some v)/\bn (we fm w.heap.size) r v/\fC P (we fm w.heap.size) w' (.var 0) r v
def aA(P:Program)(gl:cQ)(f:Nat)(xs:List AV)(r:AV):Prop :=
 ∀γ w vs,(∀b off v,γ b off=some v->w.cell? ⟨b,off,none⟩=some v)->(∀n x,gl n=some x->dr γ x (ptrTo n 0))->cS (BU γ) xs vs ->
  Calls P f vs.toArray w (apu P γ w r)
def l9(H:List ay):au:=⟨[],H⟩
def tu:Act:=⟨#[],[]⟩
def kR(P:Program)(f:Nat):Bool:=match P.funcs[f]? with|some fn=>fn.name != "runtime.NumGoroutine"&&!fn.body.isNone|none=>false
def bB(P:Program)(gl:cQ)(f:Nat)(xs:List AV)(H:List ay)(K:AV->List ay->Prop):Prop :=
 kR P f=true/\∀g w vs,Rel P gl 0 g (l9 H) tu w->cS g xs vs->(∀(i:Nat)x v,xs[i]?=some x->vs[i]?=some v->fC P g w (.var i) x v) ->
  Calls P f vs.toArray w λe w'=>∃v r H' g',e=.returned v/\K r H'/\eL g w g' w'/\Rel P gl 0 g' (l9 H') tu w'/\bn g' r v/\fC P g' w' (.var 0) r v
def kv(P:Program)(gl:cQ)(f:Nat)(xs:List AV)(H:List ay)(K:AV->List ay->Prop):Prop:=bB P gl f xs H K/\∃r H',K r H'
variable {P:Program}{gl:cQ}{f:Nat}{xs:List AV}{H:List ay}{K K':AV->List ay->Prop}
theorem bB.mono(h:bB P gl f xs H K)(hk:∀r H,K r H->K' r H):bB P gl f xs H K' :=
 ⟨h.1,λg w vs a b c=>(h.2 g w vs a b c).mono λ_ _ ⟨v,r,d,g',e,i,j⟩=>⟨v,r,d,g',e,hk _ _ i,j⟩⟩
theorem kv.mono(h:kv P gl f xs H K)(hk:∀r H,K r H->K' r H):kv P gl f xs H K' :=
 ⟨h.1.mono hk,h.2.elim λr ⟨a,h⟩=>⟨r,a,hk _ _ h⟩⟩
def jh:cW->Option Nat
 |.hV d _|.p9 d _|.sZ d _ _|.pick d _ _ _|.bin d _ _ _ _|.ur d _ _ _ _|.qa d _|.neg d _|.conv d _ _|.ext d _ _|.len d _ _|.alloc d _|.box d _|.kc d _|.s0 d _|.s3 d _|.build d _ _|.lit d _ _|.fz d _ _|.lV d _ _ _|.oJ d _ _ _ _|.ld d _ _ _|.je d _ _ _|.idx d _ _|.qb d _ _ _ _|.q4 d _ _ _ _ _|.app d _ _ _ _|.hL d _|.pq d _ _|.r3 d _ _ _|.r5 d _ _ _|.vz d|.look _ d _ _ _ _|.iN _ d _ _ _|.r6 d _|.nU d _|.oK d _|.s4 d _ _ _|.nV d _ _ _|.s5 d _ _ _|.vy d _ _|.r4 d _ _ _|.r7 d _ _ _ _ _|.r8 d _ _|.s6 d _|.s7 d _ _ _|.s8 d _ _|.uu d _ _ _=>some d|.s9 _ _ _|.lW _ _ _ _=>none|.st _ _ _|.ir _ _|.qc _ _ _ _|.q5 _ _ _ _=>none|.qd _ d _ _|.eP d _ _|.iu d _ _|.lY d _ _|.mC d _ _|.lX d _ _ _|.bad d=>d|.on _ o=>jh o
def BV(s:au)(t:Nat):au:=match Env.get s.env t with
 |some (.v (.ptr id 0))=>{ s with heap:=s.heap.set id .dead }|some (.v (.map id))=>{ s with heap:=s.heap.set id .dead }|_=>s
def mN(env:Env):Option (Nat×Bool)->Option Bool
 |none=>some true|some (t,want)=>match Env.get env t with|some (.v (.bool b))=>some (b==want)|some (.v (.bg []))=>some false|_=>none
abbrev bj:=Nat->List AV->Option AV
section
variable (P:Program)(gl:cQ)(D:bj)
def dj(s:au)(K:au->Prop):cW->Prop
 |.eP d f xs=>match e8 gl s.env xs with
  |some vs=>(vs.map AV.a1).all AV.arg=true/\(match D f (vs.map AV.a1)with
   |some r=>aA P gl f (vs.map AV.a1) r/\(match s.fO d r with|some s'=>K s'|none=>False)|none=>False)
  |none=>False
 |.iu d f xs=>match e8 gl s.env xs with
  |some vs=>kv P gl f (vs.map AV.a1) s.heap λr H'=>match({ s with heap:=H' }).fO d r with|some s'=>K s'|none=>False
  |none=>False
 |.mC d f xs=>match e8 gl s.env xs with
  |some vs=>kv P gl f (vs.map AV.a1) s.heap λr H'=>(∃n,H'=s.heap++aKE n .dead)/\match({ s with heap:=H' }).fO d r with|some s'=>K s'|none=>False
  |none=>False
 |.lX d f u xs=>match Env.get s.env u,e8 gl s.env xs with
  |some (.v (.list (some e) sz ys)),some vs=>kv P gl f (.list (some e) sz ys::vs.map AV.a1) s.heap λr H'=>match(⟨s.env.ins u (.v (.list none sz ys)),H'⟩:au).fO d r with|some s'=>K s'|none=>False
  |some (.v v),some vs=>kv P gl f (v.a1::vs.map AV.a1) s.heap λr H'=>match({ s with heap:=H' }:au).fO d r with|some s'=>K s'|none=>False
  |_,_=>False
 |.nU d it=>match(br gl s.env it).bind (r9 s.heap)with
  |some (id,m,since,seen,es)=>match es with
   |[]=>(match s.put d (.bg [.bool false])with|some s'=>K s'|none=>False)|e0::es=>∀e∈e0::es,match({ s with heap:=s.heap.set id (.iter m since (seen++[e.1])) }:au).put d (.bg [.bool true,e.1,e.2.a1])with|some s'=>K s'|none=>False
  |none=>False
 |.lY d x xs=>match br gl s.env x,e8 gl s.env xs with
  |some (.fn f hb),some vs=>kv P gl f (vs.map AV.a1++hb.map AV.a1) s.heap λr H'=>match({ s with heap:=H' }).fO d r with|some s'=>K s'|none=>False
  |_,_=>False
 |o=>match aJ gl s o with|some s'=>K s'|none=>False
def kx:List bq->au->(au->Prop)->Prop
 |[],s,K=>K s|it::r,s,K=>match mN s.env it.g with
  |some true=>dj P gl D s (λs'=>kx r s' K) it.o|some false=>(match jh it.o with
   |some d=>(match s.put d (.bg [])with|some s'=>kx r s' K|none=>False)|none=>kx r s K)
  |none=>False
def apv(F:au->(k7->au->Prop)->Prop)(s:au)(Q:k7->au->Prop):Prop :=
 ∀X:au->Prop,(∀s,F s (λe s'=>match e with|.normal=>X s'|e=>Q e s')->X s)->X s
def exec:az->au->(k7->au->Prop)->Prop
 |.skip,s,Q=>Q .normal s|.aa dp x7,s,Q=>kx P gl D dp s λs'=>Q .normal { s' with env:=s'.env.close x7 }|.seq a b,s,Q=>exec a s λe s'=>match e with|.normal=>exec b s' Q|e=>Q e s'
 |.cond c a b,s,Q=>match br gl s.env c with
  |some (.bool t)=>if t=true then exec a s Q else exec b s Q|_=>False
 |.block id c,s,Q=>exec c s λe s'=>match e with|.exit i=>if i=id then Q .normal s' else Q (.exit i) s'|e=>Q e s'
 |.loop c,s,Q=>apv (λs Q=>exec c s Q) s Q|.exit id,s,Q=>Q (.exit id) s|.ret,s,Q=>Q .ret s|.Ht t c,s,Q=>(match Env.get s.env t with
   |some (.v (.list _ _ xs))=>xs.length<=M->exec c s Q|some (.v (.str l))=>l.length<=M->exec c s Q|_=>False)
 |.drop bE c,s,Q=>exec c { s with env:=s.env.close bE } Q|.q6 t e sz c,s,Q=>(match BR s t e sz with|some s'=>exec c s' Q|none=>False)|.ta t off e sz c,s,Q=>(match BS s t off e sz with|some s'=>exec c s' Q|none=>False)|.kill t c,s,Q=>exec c (BV s t) Q|.bad,_,_=>False
end
inductive bo where
 |t (n:Nat)|b (n sz:Nat)
def BW(env:Env):bo->Option AV
 |.t n=>match Env.get env n with|some (.v x)=>some x|_=>none
 |.b n sz=>match Env.get env n with|some (.b cs)=>if cs.length=sz then some (.agg (cs.map AV.a1))else none|_=>none
def BX(env:Env):List bo->Option (List AV)
 |[]=>some []|r::rs=>match BW env r,BX env rs with|some x,some xs=>some (x.a1::xs)|_,_=>none
def tv(env:Env):List bo->Option AV
 |[r]=>BW env r|rs=>(BX env rs).map .bg
-- the checker
section
variable (P:Program)(N:Nat)
def x8(N:Nat)(o:Oper):Option Nat->Bool
 |some d=>cZ N o d|none=>o.dst==none
def kS(o:Oper):cW->Bool
 |.hV d x=>Bo N o d x|.p9 d x=>Bo N o d (.t x)|.sZ d e sz=>LX P N o d e sz|.pick d c a b=>LY N o d c a b|.bin d m op x y=>L2 P N o d m op x y|.ur d ne ks x y=>L4 P N o d ne ks x y|.qa d x=>LZ N o d x|.neg d x=>L0 N o d x|.conv d k x=>L1 P N o d k x|.ext d x i=>L8 N o d x i|.len d m x=>Mb P N o d m x|.alloc d z=>Ec P N o d z|.box d x=>xP N o d x|.kc d z=>Mp P N o d z|.s0 d x=>Mq N o d x|.build d z parts=>MF P N o d z parts|.lit d sz xs=>Bz P N o d sz xs|.fz d x off=>Md P N o d x off|.lV d sz x i=>Me P N o d sz x i|.ld d x n nB=>xL P N o d x n nB|.je d x e sz=>Mx P N o d x e sz|.st n x v=>vR P o n x v|.ir x v=>vR P o 1 x (.t v)|.idx d x i=>Mf P N o d x i|.qb d sz x bc al=>Mh P N o d sz x bc al|.app d u x e sz=>H0 P N o d u x e sz|.hL d x=>Mn N o d x|.pq d f hb=>Mo N o d f hb|.r3 d c e sz=>MH P N o d c e sz|.r5 d k6 x y=>Mm N o d k6 x y|.vy d e z=>NB P N o d e z|.r4 d x e sz=>NC P N o d x e sz|.vz d=>MY N o d|.look ks d m k zero ok=>MZ P N o ks d m k zero ok|.iN ks d m k zero=>Nf P N o ks d m k zero|.qc ks m k v=>Ew P o ks m k v|.q5 ks m k v=>Nb P o ks m k v|.qd ks d m k=>Nc P N o ks d m k|.r6 d m=>Ex P N o d m|.nU d it=>H8 N o d it|.oK d it=>H9 N o d it|.r7 d e sz sb u x=>Nv P N o d e sz sb u x|.s6 d x=>Nq N o d x|.s7 d e x n=>Nr P N o d e x n|.s8 d f x=>BQ P N o d f "internal/abi.NoEscape" [x]|.lW b n x v=>vR P o n x v|.s9 e z x=>ND P o e z x|.uu d f x y=>BQ P N o d f "internal/bytealg.abigen_runtime_cmpstring" [x,y]|.eP d f xs|.iu d f xs|.mC d f xs=>x8 N o d&&kR P f&&(match o.op with|.call c=>(match c.callee with|.value (.func iS)=>iS==f&&jX c.args.toList xs|_=>false)|_=>false)|.lX d f u xs=>x8 N o d&&kR P f&&(match o.op with|.call c=>(match c.callee with|.value (.func iS)=>iS==f&&jX c.args.toList (.t u::xs)|_=>false)|_=>false)|.lY d x xs=>x8 N o d&&(match o.op with|.call c=>(match c.callee with|.value y=>dJ y x&&jX c.args.toList xs|_=>false)|_=>false)|.s3 d x=>xP N o d x|.r8 d ne x=>ML P N o d ne x|.nV d e sz xs=>Ep P N o d e sz xs|.oJ d x n sz i=>MN P N o d x n sz i|.q4 d x n sz bc al=>MP P N o d x n sz bc al|.s4 d e sz xs=>MU P N o d e sz xs|.s5 d e z x=>MS P N o d e z x|.on _ ma=>kS o ma|.bad _=>true
def Ij(ops:Array Oper)(o:Oper)(it:bq):Bool :=
 match o.guard,it.g with
 |none,none=>true|some (j,want),some (t,VJ)=>want==VJ&&((ops[j]?).bind (·.dst))==some t|_,_=>false
def Ik(o:Oper)(ma:cW):Bool:=match jh ma with|some d=>o.dst==some d&&decide (d<N)|none=>o.dst==none
def BY(ops:Array Oper):List Oper->List bq->Bool
 |[],[]=>true|o::os,it::dp=>Ij ops o it&&Ik N o it.o&&kS P N o it.o&&BY ops os dp|_,_=>false
end
section
variable {P:Program}{gl:cQ}{D:bj}{N:Nat}{g g':bD}{s s':au}{a:Act}{w w':World}{o:Oper}
theorem wg{l:cW}(h:Rel P gl N g s a w)(j:kS P N o l=true)(he:aJ gl s l=some s'):eu P gl N o g a w s':=by
 cases l<;>simp only[kS]at j
 case hV d x=>exact amJ h j he
 case p9 d x=>exact amK h j he
 case sZ d e sz=>exact amL h j he
 case pick d c a b=>exact amM h j he
 case bin d m op x y=>exact am3 h j he
 case ur d ne ks x y=>exact am2 h j he
 case qa d x=>exact amN h j he
 case neg d x=>exact amO h j he
 case conv d k x=>exact amP h j he
 case ext d x i=>exact am5 h j he
 case len d m x=>exact ana h j he
 case alloc d z=>exact anx h j he
 case box d x=>exact anz h j he
 case kc d z=>exact anA h j he
 case s0 d x=>exact anB h j he
 case build d z parts=>exact anJ h j he
 case lit d sz xs=>exact anG h j he
 case fz d x off=>exact ang h j he
 case lV d sz x i=>exact anh h j he
 case ld d x n nB=>exact anc h j he
 case je d x e sz=>exact anE h j he
 case st n x v=>exact UN h j he
 case ir x v=>exact anD h j he
 case idx d x i=>exact anj h j he
 case qb d sz x bc al=>exact ano h j he
 case app d u x e sz=>exact anQ h j he
 case hL d x=>exact anr h j he
 case pq d f hb=>exact ant h j he
 case r3 d c e sz=>exact anK h j he
 case r5 d k6 x y=>exact anq h j he
 case bad=>cases he
 case on m p =>
  simp only[aJ]at he;split at he
  ·exact wg h j he
  ·cases he
 case s4 d e sz xs=>exact an7 h j he
 case s5 d e z x=>exact an4 h j he
 case oJ d x n sz i=>exact anZ h j he
 case q4 d x n sz bc al=>exact an1 h j he
 case s3 d x=>exact anT h j he
 case r8 d ne x=>exact anV h j he
 case nV d e sz xs=>exact anW h j he
 case eP=>cases he
 case iu=>cases he
 case lY=>cases he
 case mC=>cases he
 case lX=>cases he
 case nU=>cases he
 case vz d=>exact aoc h j he
 case look ks d m k zero ok=>exact aoi h j he
 case iN ks d m k zero=>exact aoA h j he
 case qc ks m k v=>exact aor h j he
 case q5 ks m k v=>exact aos h j he
 case qd ks d m k=>exact aox h j he
 case r6 d m=>exact aoD h j he
 case oK d it=>exact aoL h j he
 case r7 d e sz sb u x=>exact apa h j he
 case s6 d x=>exact aoT h j he
 case s7 d e x n=>exact aoX h j he
 case vy d e z=>exact apl h j he
 case r4 d x e sz=>exact apn h j he
 case s8 d f x=>exact ao2 h j he
 case uu d f x y=>exact ao5 h j he
 case s9 e z x=>exact apr h j he
 case lW b n x v=>exact apt h j he
def tw(P:Program)(gl:cQ)(N:Nat)(g:bD)(w:World)(K:au->Prop)(cN:Act)(w':World):Prop:=∃s' g',K s'/\eL g w g' w'/\Rel P gl N g' s' cN w'
variable {Q:Exit->Act->World->Prop}
theorem eu.wp{K:au->Prop}(h:eu P gl N o g a w s')(c:K s'):o.wp P a w (tw P gl N g w K) Q:=by
 obtain⟨v,w',g',b,d,e⟩:=h;unfold Oper.wp;rcases b with b|⟨b,rfl⟩
 ·rw[b];exact⟨s',g',c,d,e⟩
 ·rw[b];exact⟨s',g',c,d,e⟩
theorem apw(h:kR P f=true):∃fn,P.funcs[f]?=some fn/\(fn.name== "runtime.NumGoroutine")=false/\fn.body.isNone=false:=by
 unfold kR at h;split at h
 ·grind
 ·cases h
theorem ED{args:Array Value}(h:kR P f=true):(callFunc f args).run P w=.ok (.enter f args) w:=by
 obtain⟨fn,b,c,d⟩:=apw h;simp only[callFunc,Sem.run_bind,run_program,Result.andThen_ok,b,c,aKG,if_false,d,Sem.run_pure]
theorem cS.apx{cs:List AV}{ws:List Value}(h:cS g cs ws)(ah:cs.all AV.eH=true):cS (BU g.γ) cs ws:=by
 induction ws generalizing cs with
 |nil=>cases h;exact .nil|cons u us ih=>cases h with
  |cons c cs _ _ h1 b =>
   simp only[List.all_cons,aKB]at ah;exact .cons _ _ _ _ (.pure _ _ (h1.My ah.1)) (ih b ah.2)
variable {x:AV}{v:Value}
theorem VK(h:bn g x v)(ah:x.arg=true):bn (BU g.γ) x v:=by
 by_cases b:∃f cs,x=.fn f cs
 ·obtain⟨f,cs,rfl⟩:=b;cases h with
  |pure _ _ h=>cases h|fn _ _ ws h=>exact .fn _ _ _ (h.apx ah)
 ·have:x.pure=true:=by cases x<;>first|exact ah|simp_all
  exact .pure _ _ (h.MA this)
theorem NF{vs:List Value}(h:cS g xs vs)(ah:xs.all AV.arg=true):cS (BU g.γ) xs vs:=by
 induction vs generalizing xs with
 |nil=>cases h;exact .nil|cons u us ih=>cases h with
  |cons c cs _ _ h1 b =>
   simp only[List.all_cons,aKB]at ah;exact .cons _ _ _ _ (VK h1 ah.1) (ih b ah.2)
variable {d:Option Nat}
theorem Rel.fO(h:Rel P gl N g s a w)(ar:s.fO d x=some s')(hd:x8 N o d=true)(b:bn g x v)(aE:fC P g w (.var (d.getD 0)) x v) :
  Rel P gl N g s' (a.put o.dst v) w:=by
 cases d with
 |none =>
  simp[au.fO]at ar;subst ar;simp only[x8,beq_iff_eq]at hd;rw[hd];exact h
 |some d =>
  simp only[x8,cZ,aKB,beq_iff_eq,decide_eq_true_eq]at hd;rw[hd.1];exact h.put ar hd.2 b aE
theorem apy{xs:List aL}{us:List AV}{r:AV}{K:au->Prop}(h:Rel P gl N g s a w)
  (E:kS P N o (.eP d f xs)=true)(he:e8 gl s.env xs=some us)(aG:(us.map AV.a1).all AV.arg=true)(hd:aA P gl f (us.map AV.a1) r)(ar:s.fO d r=some s')(F:K s') :
  o.wp P a w (tw P gl N g w K) Q:=by
 simp only[kS,aKB]at E;obtain⟨⟨G,tx⟩,n⟩:=E;split at n
 ·rename_i c aE;split at n
  ·rename_i iS j0;simp only[aKB,beq_iff_eq]at n;obtain⟨rfl,jZ⟩:=n;have qm:=(vF h jZ he).a1;have cT:(execOp a.eval o).run P w=.ok (.enter iS (c.args.toList.map a.eval).toArray) w:=by
    have e:(List.map a.eval c.args.toList).toArray=c.args.map a.eval:=by apply Array.ext';simp
    simp only[execOp,aE,resolve,j0,Act.eval,Deferred.ofValue,Sem.run_bind,Sem.run_pure,Result.andThen_ok,invoke];rw[ED tx];simp only[Result.ok.injEq,Next.enter.injEq,true_and,and_true];rw[<-e];simp
   unfold Oper.wp;rw[cT];refine(hd g.γ w _ h.fI h.hf (NF qm aG)).mono λe w' zI=>?_;obtain⟨v,u,rfl,J,L,y,A,O,R,S⟩:=zI;let l:bD:=⟨u,λb=>if b<w.heap.size then g.bO b else if v.ownBlock=some b then .var (d.getD 0)else .none,g.cg⟩
   have p:GhLe g l:=⟨J,λ_ _ h=>h⟩;have q8:∀b,g.bO b≠.none->l.bO b=g.bO b/\w'.heap[b]?=w.heap[b]?/\∀o,l.γ b o=g.γ b o:=λb ae=>by
    have j:=h.own b ae;exact⟨by simp[l,j],(y b j).1,(y b j).2⟩
   have T:∀b,v.ownBlock=some b->(∃e sz xs,r=.list (some e) sz xs)->b<w'.heap.size/\w.heap.size<=b:=by
    intro b ae ⟨e,sz,xs,t⟩;obtain⟨i,z,vs,V,W,X,Y,Z,iO,oN,B,C⟩:=S e sz xs t;have q:=(C b ae).1;refine⟨(B.lt b ae).2,?_⟩;simp only[we]at q;by_cases j:b<w.heap.size
    ·simp[j]at q
    ·omega
   -- without ownership the block of the result is nobody's
   by_cases t:∃e sz xs,r=.list (some e) sz xs
   ·have k:Rel P gl N l s a w':=h.step .none (lu.none s) p (λb ae=>q8 b ae.1) O (λb ae=>by
     by_cases j:b<w.heap.size
     ·omega
     ·simp[l,j]at ae;exact(T b ae t).1) h.ga
    refine⟨s',l,F,⟨p,λb ae=>?_,L,A.1,A.2⟩,?_⟩
    ·grind
    ·refine k.fO ar G (R.mono (⟨λ_ _ _ h=>h,λ_ _ h=>d6⟩:GhLe (we u w.heap.size) l)) ?_;intro e sz xs ah;obtain⟨i,z,vs,V,W,X,Y,Z,iO,oN,B,C⟩:=S e sz xs ah;refine⟨i,z,vs,V,W,X,Y,Z,iO,oN,B,λb ae=>?_⟩;have q:=T b ae t;exact⟨by simp[l,show ¬b<w.heap.size by omega,ae],(C b ae).2⟩
   ·let m:bD:=⟨u,λb=>if b<w.heap.size then g.bO b else .none,g.cg⟩
    have od:GhLe g m:=⟨J,λ_ _ h=>h⟩;have Il:∀b,g.bO b≠.none->m.bO b=g.bO b/\w'.heap[b]?=w.heap[b]?/\∀o,m.γ b o=g.γ b o:=λb ae=>by
     have j:=h.own b ae;exact⟨by simp[m,j],(y b j).1,(y b j).2⟩
    have k:Rel P gl N m s a w':=h.step .none (lu.none s) od (λb ae=>Il b ae.1) O (λb ae=>by
     by_cases j:b<w.heap.size
     ·omega
     ·simp[m,j]at ae) h.ga
    refine⟨s',m,F,⟨od,λb ae=>?_,L,A.1,A.2⟩,?_⟩
    ·grind
    ·exact k.fO ar G (R.mono (⟨λ_ _ _ h=>h,λ_ _ h=>d6⟩:GhLe (we u w.heap.size) m)) (.mE λe sz xs ah=>t ⟨e,sz,xs,ah⟩)
  ·cases n
 ·cases n
end
section
variable {P:Program}{gl:cQ}{D:bj}{N:Nat}{g g':bD}{s s':au}{a:Act}{w w':World}{o:Oper}
def eW.out:eW->eW
 |.none=>.none|.bM id=>.bM id|.oc id i=>.oc id i|_=>.outer
theorem VL{x:eW}(h:x.out≠.none):x≠.none:=by rintro rfl;exact h rfl
theorem Rel.VM(h:Rel P gl N g s a w)(bO:Nat->eW)(hO:∀b,(∃id,g.bO b=.bM id)\/(∃id i,g.bO b=.oc id i)->bO b=g.bO b)(ae:∀b,bO b≠.none->b<w.heap.size) :
  Rel P gl 0 ⟨g.γ,bO,g.cg⟩ (l9 s.heap) tu w:=by
 refine⟨.nil,rfl,rfl,λt e he=>kE,λid bM c=>?_,h.fI,ae,h.hf,h.ga⟩;refine(h.heap id bM c).kept (g':=⟨g.γ,bO,g.cg⟩) (w':=w) (K:=λo=>(∃i,o=.bM i)\/∃i j,o=.oc i j) ⟨λ_ _ _ h=>h,λ_ _ h=>h⟩ (λb ae=>⟨hO b ?_,rfl,λ_=>rfl⟩) (λi=>.inl ⟨i,rfl⟩) (λi=>.inr ⟨id,i,rfl⟩);exact ae
variable {d:Option Nat}{vs:List Value}{K:au->Prop}{Q:Exit->Act->World->Prop}
theorem VN(h:Rel P gl N g s a w)(hd:x8 N o d=true)
  (O:(execOp a.eval o).run P w=.ok (.enter f vs.toArray) w)(bO:Nat->eW)(B:∀b,g.bO b≠.none->bO b=(g.bO b).out)(R:∀b,bO b≠.none->b<w.heap.size)
  (S:cS ⟨g.γ,bO,g.cg⟩ xs vs)(T:∀(i:Nat)x v,xs[i]?=some x->vs[i]?=some v->fC P ⟨g.γ,bO,g.cg⟩ w (.var i) x v)
  (V:bB P gl f xs s.heap λr H'=>match({ s with heap:=H' }:au).fO d r with|some s'=>K s'|none=>False):o.wp P a w (tw P gl N g w K) Q:=by
 unfold Oper.wp;rw[O];have m:∀b,(g.bO b).out=.outer->bO b=.outer:=λb ae=>by rw[B b (λe=>by rw[e]at ae;cases ae),ae]
 have W:=h.VM bO (λb ae=>by
  rcases ae with⟨id,ae⟩|⟨id,i,ae⟩<;>rw[B b (by rw[ae];simp),ae]<;>rfl) R
 refine(V.2 ⟨g.γ,bO,g.cg⟩ w vs W S T).mono λe w' X=>?_;obtain⟨v,r,H',g',rfl,p,k,c,Y,Z⟩:=X;split at p
 ·rename_i s' ku;let l:bD:=⟨g'.γ,λb=>if(g.bO b).out=.outer then g.bO b else if g'.bO b=.var 0 then .var (d.getD 0)else g'.bO b,g'.cg⟩
  have C:GhLe g l:=⟨k.γ,k.cg⟩;have E:GhLe g' l:=⟨λ_ _ _ h=>h,λ_ _ h=>h⟩;have F:∀b,(g.bO b).out=.outer->l.bO b=g.bO b/\w'.heap[b]?=w.heap[b]?/\∀o,l.γ b o=g.γ b o:=λb ae=>by
   obtain⟨G,u,y⟩:=k.outer b (m b ae);exact⟨by simp[l,ae],u,y⟩
  have hk:Kept g w l w' λo=>o.out=.outer:=λb ae=>F b ae;have de:Rel P gl N l { s with heap:=H' } a w':=by
   refine⟨h.sorted,h.size,h.defers,λt e he=>(h.env t e he).kept C hk rfl rfl (λ_=>rfl),λid bM bN=>?_,c.fI,λb ae=>?_,λn x ah=>c.hf n x ah,c.ga⟩
   ·have h1:=c.heap id bM bN;have hp:Kept g' w' l w' λo=>(∃i,o=.bM i)\/∃i j,o=.oc i j:=λb ae=>by
     have A:(g.bO b).out≠.outer:=λe=>by
      have:=(k.outer b (m b e)).1;rcases ae with⟨i,ae⟩|⟨i,j,ae⟩<;>rw[this]at ae<;>cases ae
     refine⟨?_,rfl,λ_=>rfl⟩;rcases ae with⟨i,ae⟩|⟨i,j,ae⟩<;>simp[l,A,ae]
    exact h1.kept E hp (λi=>.inl ⟨i,rfl⟩) (λi=>.inr ⟨id,i,rfl⟩)
   ·by_cases e:(g.bO b).out=.outer
    ·grind
    ·simp only[l,e,if_false]at ae;by_cases J:g'.bO b=.var 0
     ·exact c.own b (by rw[J];simp)
     ·simp[J]at ae;exact c.own b ae
  refine⟨s',l,p,⟨C,λb ae=>?_,k.size,k.os,k.out⟩,?_⟩
  ·obtain⟨G,u,y⟩:=F b (by rw[ae];rfl);exact⟨G.trans ae,u,y⟩
  ·refine de.fO ku hd (Y.mono E) λe sz xs ah=>?_;obtain⟨j,z,us,m1,m2,m3,m4,m5,m6,m7,m8,L⟩:=Z e sz xs ah;refine⟨j,z,us,m1,m2,m3,m4,m5,m6,m7,m8,λb ae=>⟨?_,(L b ae).2⟩⟩;have q:=(L b ae).1;have A:(g.bO b).out≠.outer:=λe=>by have:=(k.outer b (m b e)).1;rw[this]at q;cases q
   simp[l,A,q]
 ·exact p.elim
theorem NH(h:Rel P gl N g s a w)(hd:x8 N o d=true)
  (c:(execOp a.eval o).run P w=.ok (.enter f vs.toArray) w)(e:cS g xs vs)(i:∀x∈xs,cY x)
  (j:bB P gl f xs s.heap λr H'=>match({ s with heap:=H' }:au).fO d r with|some s'=>K s'|none=>False):o.wp P a w (tw P gl N g w K) Q :=
 VN h hd c (λb=>(g.bO b).out) (λ_ _=>rfl) (λb ae=>h.own b (VL ae)) (cS.mono (g:=g) (g':=⟨g.γ,λb=>(g.bO b).out,g.cg⟩) ⟨λ_ _ _ h=>h,λ_ _ h=>h⟩ e) (λ_ x _ ah _=>(i x (aKC ah)).gG) j
theorem NI{us:List AV}:∀x∈us.map AV.a1,cY x:=uA
variable {xs:List aL}
theorem VP(h:Rel P gl N g s a w)
  (i:kS P N o (.iu d f xs)=true)(bA:dj P gl D s K (.iu d f xs)):o.wp P a w (tw P gl N g w K) Q:=by
 simp only[dj]at bA;split at bA
 ·rename_i r he;simp only[kS,aKB]at i;obtain⟨⟨j,k⟩,b⟩:=i;split at b
  ·rename_i c aE;split at b
   ·rename_i l m;simp only[aKB,beq_iff_eq]at b;obtain⟨rfl,n⟩:=b;have p:=(vF h n he).a1;have q:(execOp a.eval o).run P w=.ok (.enter l (c.args.toList.map a.eval).toArray) w:=by
     have e:(List.map a.eval c.args.toList).toArray=c.args.map a.eval:=by apply Array.ext';simp
     simp only[execOp,aE,resolve,m,Act.eval,Deferred.ofValue,Sem.run_bind,Sem.run_pure,Result.andThen_ok,invoke];rw[ED k];simp only[Result.ok.injEq,Next.enter.injEq,true_and,and_true];rw[<-e];simp
    exact NH h j q p NI bA.1
   ·cases b
  ·cases b
 ·exact bA.elim
theorem apz(h:Rel P gl N g s a w)
  (b:kS P N o (.mC d f xs)=true)(bA:dj P gl D s K (.mC d f xs)):o.wp P a w (tw P gl N g w K) Q:=by
 refine VP (D:=D) (d:=d) (f:=f) (xs:=xs) h b ?_;simp only[dj]at bA ⊢;split at bA
 ·exact bA.mono λr H c=>c.2
 ·exact bA
theorem apA{u:Nat}(h:Rel P gl N g s a w)
  (L:kS P N o (.lX d f u xs)=true)(bA:dj P gl D s K (.lX d f u xs)):o.wp P a w (tw P gl N g w K) Q:=by
 simp only[kS,aKB]at L;obtain⟨⟨O,tx⟩,k⟩:=L;split at k
 ·rename_i c aE;split at k
  ·rename_i iS j0;simp only[aKB,beq_iff_eq]at k;obtain⟨rfl,n⟩:=k;have m:(execOp a.eval o).run P w=.ok (.enter iS (c.args.toList.map a.eval).toArray) w:=by
    have e:(List.map a.eval c.args.toList).toArray=c.args.map a.eval:=by apply Array.ext';simp
    simp only[execOp,aE,resolve,j0,Act.eval,Deferred.ofValue,Sem.run_bind,Sem.run_pure,Result.andThen_ok,invoke];rw[ED tx];simp only[Result.ok.injEq,Next.enter.injEq,true_and,and_true];rw[<-e];simp
   generalize c.args.toList=ys at n m;cases ys with
   |nil=>simp[jX]at n|cons y ys =>
    simp only[jX,aKH,List.zip_cons_cons,List.all_cons,aKB,beq_iff_eq]at n;obtain⟨aC,l,zJ⟩:=n;have nt:y=.tmp u:=by
     unfold dJ at l;split at l<;>simp_all
    subst nt;have R:jX ys xs=true:=by simp only[jX,aKB,beq_iff_eq];exact⟨am,zJ⟩
    simp only[dj]at bA;split at bA
    ·rename_i e sz S us p he;obtain⟨v,q,r,t⟩:=h.env _ _ p;have A:a.eval (.tmp u)=v:=by simp[Act.eval,q]
     have B:=(vF h R he).a1;obtain⟨an,C⟩:=h.strip p;rw[aKJ,A]at m
     -- the block that is handed over is nobody's for a while
     let j:bD:=⟨g.γ,λb=>if v.ownBlock=some b then .none else g.bO b,g.cg⟩
     have E:∀b,v.ownBlock=some b->g.bO b=.var u/\b<w.heap.size:=λb ae=>by
      obtain⟨i,z,vs,m1,T,V,W,X,Y,Z,F,G⟩:=t e sz S rfl;exact⟨(G b ae).1,(F.lt b ae).2⟩
     have VR:eL g w j w:=⟨⟨λ_ _ _ h=>h,λ_ _ h=>h⟩,λb ae=>⟨by
      have:v.ownBlock≠some b:=λe=>by rw[(E b e).1]at ae;cases ae
      simp[j,this,ae],rfl,λ_=>rfl⟩,Nat.le_refl _,rfl,rfl⟩
     have mO:Rel P gl N j { s with env:=s.env.ins u (.v (.list none sz S)) } a w:=by
      refine C.step (.var u) (HZ _ _ _ _) VR.toGhLe (λb ae=>⟨?_,rfl,λ_=>rfl⟩) C.fI (λb ae=>?_) C.ga
      ·grind
      ·by_cases e:v.ownBlock=some b
       ·exact(E b e).2
       ·simp[j,e]at ae;exact h.own b ae
     let bO:Nat->eW:=λb=>if v.ownBlock=some b then .var 0 else(g.bO b).out
     have zI:o.wp P a w (tw P gl N j w K) Q:=by
      refine VN mO O m bO (λb ae=>?_) (λb ae=>?_) ?_ ?_ bA.1
      ·grind
      ·by_cases e:v.ownBlock=some b
       ·exact(E b e).2
       ·simp only[bO,e,if_false]at ae;exact h.own b (VL ae)
      ·exact .cons _ _ _ _ (bn.mono (g:=g) (g':=⟨j.γ,bO,j.cg⟩) ⟨λ_ _ _ h=>h,λ_ _ h=>h⟩ r) (cS.mono (g:=g) (g':=⟨j.γ,bO,j.cg⟩) ⟨λ_ _ _ h=>h,λ_ _ h=>h⟩ B)
      ·intro i x c6 ah ey;cases i with
       |zero =>
        simp at ah ey;subst ah ey;intro cB dW J bS;obtain⟨i,z,vs,m1,T,V,W,X,Y,Z,F,G⟩:=t cB dW J bS;exact⟨i,z,vs,m1,T,V,W,X,Y,Z,F,λb ae=>⟨by simp[bO,ae],(G b ae).2⟩⟩
       |succ i =>
        simp only[List.getElem?_cons_succ]at ah;exact(uA x (aKC ah)).gG
     exact Oper.wp_mono (λcN w' ⟨s',g',aj,av,aQ⟩=>⟨s',g',aj,VR.trans av,aQ⟩) zI
    ·rename_i x us l5 p he;obtain⟨v,q,r,t⟩:=h.env _ _ p;have A:a.eval (.tmp u)=v:=by simp[Act.eval,q]
     have B:=(vF h R he).a1;rw[aKJ,A]at m;exact NH h O m (.cons _ _ _ _ r.a1 B) (λy l=>by
      rcases aKD.1 l with rfl|l
      ·exact cY.a1 _
      ·exact uA y l) bA.1
    ·exact bA.elim
  ·cases k
 ·cases k
theorem bn.apC{cs:List AV}{v:Value}(h:bn g (.fn f cs) v):∃ws,v=.func (.func f) #[] ws.toArray/\cS g cs ws:=by
 cases h with
 |pure _ _ h=>cases h|fn _ _ ws h=>exact⟨ws,rfl,h⟩
theorem apD{x:aL}(h:Rel P gl N g s a w)
  (i:kS P N o (.lY d x xs)=true)(bA:dj P gl D s K (.lY d x xs)):o.wp P a w (tw P gl N g w K) Q:=by
 simp only[dj]at bA;split at bA
 ·rename_i f hb t ah he;simp only[kS,aKB]at i;obtain⟨j,b⟩:=i;split at b
  ·rename_i c aE;split at b
   ·rename_i y k;simp only[aKB]at b;obtain⟨l,m⟩:=b;have n:=(vF h m he).a1;obtain⟨ws,p,q⟩:=(dk h l ah).apC;have r:(execOp a.eval o).run P w=.ok (.enter f (c.args.toList.map a.eval++ws).toArray) w:=by
     have e:(List.map a.eval c.args.toList).toArray=c.args.map a.eval:=by apply Array.ext';simp
     simp only[execOp,aE,resolve,k,p,Deferred.ofValue,Sem.run_bind,Sem.run_pure,Result.andThen_ok,invoke];rw[ED bA.1.1];simp only[Result.ok.injEq,Next.enter.injEq,true_and,and_true];rw[<-e];simp
    refine NH h j r (n.append q.a1) (λx ah=>?_) bA.1;rcases List.mem_append.1 ah with ah|ah
    ·exact NI x ah
    ·exact NI x ah
   ·cases b
  ·cases b
 ·exact bA.elim
end
section
variable {P:Program}{gl:cQ}{D:bj}{N:Nat}{g g':bD}{s s':au}{a:Act}{w w':World}{o:Oper}
variable {Q:Exit->Act->World->Prop}
theorem apE{k:cW}{K:au->Prop}(h:Rel P gl N g s a w)(b:kS P N o k=true)(bA:dj P gl D s K k):o.wp P a w (tw P gl N g w K) Q:=by
 have A:∀z,z=k->(match aJ gl s z with|some s'=>K s'|none=>False)->o.wp P a w (tw P gl N g w K) Q:=by
  rintro _ rfl bA;split at bA
  ·rename_i s' he;exact(wg h b he).wp bA
  ·exact bA.elim
 cases k<;>first
  |exact A _ rfl bA|skip
 case eP d f xs =>
  simp only[dj]at bA;split at bA
  ·rename_i E he;obtain⟨B,c⟩:=bA;split at c
   ·rename_i r l;obtain⟨c,n⟩:=c;split at n
    ·rename_i s' ar;exact apy h b he B c ar n
    ·exact n.elim
   ·exact c.elim
  ·exact bA.elim
 case iu d f xs=>exact VP h b bA
 case lY d x xs=>exact apD h b bA
 case mC d f xs=>exact apz h b bA
 case lX d f u xs=>exact apA h b bA
 case nU d it =>
  simp only[dj]at bA;simp only[kS,H8,aKB]at b;obtain⟨hd,p⟩:=b;split at p
  ·rename_i F aE;have i:=hd;simp only[cZ,aKB,beq_iff_eq,decide_eq_true_eq]at i;split at bA
   ·rename_i id m since seen es q;obtain⟨x,ah,q⟩:=bind_some q;rcases Vw h aE p ah q with⟨rfl,l⟩|⟨e,he,w',v,l,t,C,j,_⟩
    ·simp only at bA;split at bA
     ·rename_i s' y;unfold Oper.wp;rw[l];refine⟨s',g,bA,.refl _ _,?_⟩;rw[i.1];exact h.put y i.2 (.bg _ [.bool false] (.cons _ _ _ _ (.pure _ _ (.bool _)) .nil)) (.mE λ_ _ _ h=>f9)
     ·exact bA.elim
    ·cases es with
     |nil=>simp at he|cons e0 es =>
      simp only at bA;have:=bA e he;split at this
      ·rename_i s' y;unfold Oper.wp;rw[l];refine⟨s',g,this,t,?_⟩;rw[i.1];exact j.put y i.2 C (.mE λ_ _ _ h=>f9)
      ·exact this.elim
   ·exact bA.elim
  ·cases p
def EF(P:Program)(N:Nat)(ops:Array Oper)(o:Oper)(it:bq):Bool:=Ij ops o it&&Ik N o it.o&&kS P N o it.o
variable {ops:Array Oper}
theorem VS(h:Rel P gl N g s a w){it:bq}{b:Bool}(e:Ij ops o it=true)(c:mN s.env it.g=some b) :
  Region.wanted o (yielded ops a.tmps)=b:=by
 unfold Ij at e;split at e
 ·simp_all[mN,Region.wanted]
 ·rename_i j d t r l p;simp only[aKB,beq_iff_eq]at e;obtain⟨rfl,m⟩:=e;rw[p]at c;simp only[mN]at c;split at c
  ·rename_i n ae;simp at c;obtain⟨v,i,k,_⟩:=h.env _ _ ae;have:v=.bool n:=by
    cases k with
    |pure _ _ ar=>cases ar;rfl
   subst this;simp only[Region.wanted,l,yielded,m,aKF,i];rw[<-c];cases n<;>cases d<;>rfl
  ·rename_i ae;simp at c;obtain⟨v,i,k,_⟩:=h.env _ _ ae;have:v=.tuple #[]:=by
    cases k with
    |pure _ _ ar=>cases ar|bg _ ws q=>cases q;rfl
   subst this;simp only[Region.wanted,l,yielded,m,aKF,i];subst c;cases d<;>rfl
  ·cases c
 ·cases e
theorem VT{dp:List bq}{K:au->Prop}{g0:bD}{w0:World}
  (u:∀s' g' p w',K s'->eL g0 w0 g' w'->Rel P gl N g' s' p w'->Q .normal p w') :
  ∀(l:List Nat),(∀i∈l,∃o it,ops[i]?=some o/\dp[i]?=some it/\EF P N ops o it=true) ->
   ∀s g a w,Rel P gl N g s a w->eL g0 w0 g w->kx P gl D (l.filterMap (dp[·]?)) s K->wpOps P ops Q l a w:=by
 intro l;induction l with
 |nil=>intro _ s g a w h b c;exact u s g a w c b h|cons i rest ih =>
  intro q s g a w h b c;obtain⟨o,it,aE,v,r⟩:=q i be;simp only[EF,aKB]at r;obtain⟨⟨t,e⟩,j⟩:=r;have k:=ih λi al=>q i (by simp[al]);simp only[aKK,v,kx]at c;simp only[wpOps,aE];split at c
  ·rename_i m;rw[VS h t m];simp only[if_true];refine .inl (Oper.wp_mono ?_ (apE h j c));rintro x ba ⟨n,y,hk,z,A⟩;exact k n y x ba A (b.trans z) hk
  ·rename_i m;rw[VS h t m];simp only[aKG,if_false];split at c
   ·rename_i d hd;simp only[Ik,hd,aKB,beq_iff_eq,decide_eq_true_eq]at e;rw[e.1];split at c
    ·rename_i n B;exact k n g _ w (h.put B e.2 (.bg _ _ .nil) (.mE λ_ _ _ h=>f9)) b c
    ·exact c.elim
   ·rename_i hd;simp only[Ik,hd,beq_iff_eq]at e;rw[e];exact k s g a w h b c
  ·exact c.elim
theorem Rel.drawn(h:Rel P gl N g s a w):Rel P gl N g s a { w with drawn:=w.drawn+1 } :=
 h.later (K:=λ_=>True) (g':=g) (w':={ w with drawn:=w.drawn+1 }) ⟨λ_ _ _ h=>h,λ_ _ h=>h⟩ (λ_ _=>⟨rfl,rfl,λ_=>rfl⟩) (λ_ _=>trivial) (λb off v c=>h.fI b off v c) (λb ae=>h.own b ae) h.ga
theorem VU :∀{os:List Oper}{dp:List bq},BY P N ops os dp=true->os.length=dp.length/\∀(i:Nat)o it,os[i]?=some o->dp[i]?=some it->EF P N ops o it=true
 |[],[],_=>⟨rfl,be⟩|[],_::_,h=>by simp[BY]at h|_::_,[],h=>by simp[BY]at h|o::os,it::dp,h=>by
  simp only[BY,aKB]at h;obtain⟨b,c⟩:=VU h.2;refine⟨by simp[b],λi d e aE al=>?_⟩;cases i with
  |zero=>simp at aE al;subst aE al;simp only[EF,aKB];exact h.1|succ i=>exact c i d e (by simpa using aE) (by simpa using al)
theorem VV(L:List bq):∀(dp b:List bq),L=b++dp->(List.range' b.length dp.length).filterMap (L[·]?)=dp
 |[],b,_=>rfl|it::dp,b,h=>by
  have d:L[b.length]?=some it:=by simp[h]
  have c:=VV L dp (b++[it]) (by simp[h]);simp only[List.length_append,aKH,List.length_nil,Nat.zero_add]at c;simp only[aKH,List.range'_succ,aKK,d,c]
theorem apG(dp:List bq):(List.range dp.length).filterMap (dp[·]?)=dp:=by
 have:=VV dp dp [] rfl;rw[List.range_eq_range'];exact this
end
section
variable {P:Program}{gl:cQ}{D:bj}{s:au}
theorem Io{b:cW}{K K':au->Prop}(h:dj P gl D s K b)(hk:∀s,K s->K' s):dj P gl D s K' b:=by
 have e:∀c,c=b->(match aJ gl s c with|some s'=>K s'|none=>False)->(match aJ gl s c with|some s'=>K' s'|none=>False):=by grind
 cases b<;>first
  |exact e _ rfl h|skip
 case eP d f xs =>
  simp only[dj]at h ⊢;split at h
  ·grind
  ·exact h.elim
 case iu d f xs =>
  simp only[dj]at h ⊢;split at h
  ·refine h.mono λr H a=>?_;split at a
   ·exact hk _ a
   ·exact a.elim
  ·exact h.elim
 case lY d x xs =>
  simp only[dj]at h ⊢;split at h
  ·refine h.mono λr H a=>?_;split at a
   ·exact hk _ a
   ·exact a.elim
  ·exact h.elim
 case mC d f xs =>
  simp only[dj]at h ⊢;split at h
  ·refine h.mono λr H a=>⟨a.1,?_⟩;have a:=a.2;split at a
   ·exact hk _ a
   ·exact a.elim
  ·exact h.elim
 case lX d f u xs =>
  simp only[dj]at h ⊢;split at h
  ·refine h.mono λr H a=>?_;split at a
   ·exact hk _ a
   ·exact a.elim
  ·refine h.mono λr H a=>?_;split at a
   ·exact hk _ a
   ·exact a.elim
  ·exact h.elim
 case nU d it =>
  simp only[dj]at h ⊢;split at h
  ·grind
  ·exact h.elim
theorem Ip{K K':au->Prop}(hk:∀s,K s->K' s):∀{dp:List bq}{s:au},kx P gl D dp s K->kx P gl D dp s K'
 |[],_,h=>hk _ h|it::dp,s,h=>by
  simp only[kx]at h ⊢;split at h
  ·exact Io h λs h=>Ip hk h
  ·split at h
   ·split at h
    ·exact Ip hk h
    ·exact h.elim
   ·exact Ip hk h
  ·exact h.elim
end
def c0:aL->List Nat
 |.t n=>[n]|_=>[]
def pG:List aL->List Nat
 |[]=>[]|x::r=>c0 x++pG r
def BZ:Option aL->List Nat
 |none=>[]|some x=>c0 x
def zK:List (Nat×Nat×aL)->List Nat
 |[]=>[]|(_,_,x)::r=>c0 x++zK r
def dD:cW->List Nat
 |.hV _ x|.qa _ x|.neg _ x|.conv _ _ x|.len _ _ x|.box _ x|.s0 _ x|.s3 _ x|.fz _ x _|.ld _ x _ _|.je _ x _ _|.hL _ x|.r3 _ x _ _|.r6 _ x|.nU _ x|.oK _ x|.s5 _ _ _ x|.r8 _ _ x|.s6 _ x|.s8 _ _ x|.r4 _ x _ _|.s9 _ _ x=>c0 x|.p9 _ x|.ext _ x _=>[x]|.sZ _ _ _|.alloc _ _|.kc _ _|.vy _ _ _|.vz _|.bad _=>[]|.pick _ c x y=>c0 c++(c0 x++c0 y)|.ur _ _ _ x y|.bin _ _ _ x y|.lV _ _ x y|.oJ _ x _ _ y|.st _ x y|.idx _ x y|.r5 _ _ x y|.look _ _ x y _ _|.iN _ _ x y _|.qd _ _ x y|.s7 _ _ x y|.uu _ _ x y|.lW _ _ x y|.r7 _ _ _ _ x y=>c0 x++c0 y|.build _ _ ps=>zK ps|.lit _ _ xs|.nV _ _ _ xs|.s4 _ _ _ xs|.pq _ _ xs|.eP _ _ xs|.iu _ _ xs|.mC _ _ xs=>pG xs|.ir x v=>v::c0 x|.qb _ _ x bc al|.q4 _ x _ _ bc al=>c0 x++(BZ bc++BZ al)|.app _ u x _ _=>u::c0 x|.qc _ m k v=>c0 m++(c0 k++c0 v)|.q5 _ m k v=>v::(c0 m++c0 k)|.lX _ _ u xs=>u::pG xs|.lY _ x xs=>c0 x++pG xs|.on _ o=>dD o
def sm:cW->List Nat
 |.p9 _ x|.ir _ x|.app _ x _ _ _|.q5 _ _ _ x=>[x]|.on _ o=>sm o|_=>[]
def dQ(o:cW):List Nat:=(match jh o with|some d=>[d]|none=>[])++sm o
def bH:cW->Nat
 |.hV _ _|.p9 _ _|.sZ _ _ _|.pick _ _ _ _|.bin _ _ _ _ _|.ur _ _ _ _ _|.qa _ _|.neg _ _|.conv _ _ _|.ext _ _ _|.s3 _ _|.build _ _ _|.lit _ _ _|.nV _ _ _ _|.lV _ _ _ _|.idx _ _ _|.qb _ _ _ _ _|.q4 _ _ _ _ _ _|.app _ _ _ _ _|.pq _ _ _|.r3 _ _ _ _|.r5 _ _ _ _|.r8 _ _ _|.s6 _ _|.s8 _ _ _|.uu _ _ _ _|.eP _ _ _=>0|.fz _ _ _=>1|.len _ m _=>if m=2 then 5 else 0|.alloc _ _=>2|.look _ _ _ _ _ _=>5|.mC _ _ _=>6|.on m (.ld _ _ _ _)=>if m=3 then 0 else if m=4 then 5 else if m=1\/m=2 then 7 else 9|.on m (.fz _ _ _)|.on m (.hL _ _)=>if m=3\/m=4 then 0 else 9|.on m (.je _ _ _ _)|.on m (.st _ _ _)|.on m (.ir _ _)=>if m=4 then 4 else if m=1\/m=2 then 3 else 9|.iN _ _ _ _ _|.qc _ _ _ _|.q5 _ _ _ _|.vz _|.s4 _ _ _ _|.s5 _ _ _ _|.vy _ _ _|.kc _ _|.s0 _ _|.r7 _ _ _ _ _ _|.s7 _ _ _ _|.lW _ _ _ _|.iu _ _ _|.lY _ _ _=>4|_=>9
def ea(env:Env)(t:Nat):Option dc:=match Env.get env t with
 |some (.b _)=>some (.b [])|e=>e
def eR(env:Env):List (Nat×dc)->Env
 |[]=>env|(t,x)::us=>eR (env.ins t x) us
def zT(W:List Nat)(k:Nat)(env:Env)(t:Nat):dc->Prop
 |.v _=>t∈W/\e9 env t=true|.a _ _=>t∈W/\e9 env t=true/\k=1|.b _=>(t∈W/\k=2/\hc env t=false)\/k=3/\∃cs,env.get t=some (.b cs)
def mc(W:List Nat)(k:Nat):Env->List (Nat×dc)->Prop
 |_,[]=>True|env,(t,x)::us=>zT W k env t x/\mc W k (env.ins t x) us
def me(W:List Nat)(k:Nat)(env env2:Env)(H H2:List ay)(X Y:Option au):Prop :=
 ∃ji:Option (List (Nat×dc)×(List ay->List ay)),(∀p,ji=some p->mc W k env p.1/\mc W k env2 p.1/\(k≠4->p.2=id))/\X=ji.map (λp=>⟨eR env p.1,p.2 H⟩)/\Y=ji.map λp=>⟨eR env2 p.1,p.2 H2⟩
def uK:l0->Bool
 |.ar _ _=>true|_=>false
def gone:Option ay->Prop
 |none|some .dead=>True|_=>False
def qp(o:cW)(H H2:List ay):Prop:=match bH o,o with
 |4,_|6,_=>H2=H|5,.on _ _=>∀n id off,bd ⟨[],H2⟩ n (.ar id off)=bd ⟨[],H⟩ n (.ar id off)|5,_=>∀id:Nat,H2[id]?=H[id]?\/gone H[id]?/\gone H2[id]?|_,_=>True
structure Alike(o:cW)(env env2:Env):Prop where
 wj:∀t,t∈dD o\/t∈dQ o->ea env2 t=ea env t
 aG:bH o=2->∀t,mD env2 t=mD env t
 eK:bH o=3\/bH o=7->∀t cs,env.get t=some (.b cs)↔env2.get t=some (.b cs)
section
variable {gl:cQ}{env env2:Env}{H H2:List ay}{W:List Nat}{k:Nat}
variable {t:Nat}
theorem rn(h:ea env2 t=ea env t):Env.get env2 t=Env.get env t\/∃cs cs',Env.get env t=some (.b cs)/\Env.get env2 t=some (.b cs'):=by
 unfold ea at h;split at h<;>grind
variable {y:aL}
theorem mP(h:∀t∈c0 y,ea env2 t=ea env t):br gl env2 y=br gl env y:=by
 cases y<;>simp only[br];rename_i n;rcases rn (h n (by simp[c0]))with h|⟨cs,a,b,c⟩
 ·rw[h]
 ·rw[b,c]
theorem zM:∀{ys:List aL},(∀t∈pG ys,ea env2 t=ea env t)->e8 gl env2 ys=e8 gl env ys
 |[],_=>rfl|y::ys,h=>by
  simp only[e8,mP (y:=y) λt a=>h t (by simp[pG,a]),zM (ys:=ys) λt a=>h t (by simp[pG,a])]
theorem apR{n:Nat}{y:Option aL}(h:∀t∈BZ y,ea env2 t=ea env t):h9 gl env2 n y=h9 gl env n y:=by
 cases y with
 |none=>rfl|some y=>simp only[h9,mP (y:=y) h]
theorem V4:∀{ps:List (Nat×Nat×aL)}{z:List AV},(∀t∈zK ps,ea env2 t=ea env t)->oL gl env2 z ps=oL gl env z ps
 |[],_,_=>rfl|(a,b,y)::ps,z,h=>by
  simp only[oL,mP (y:=y) λt c=>h t (by simp[zK,c]),λz=>V4 (ps:=ps) (z:=z) λt c=>h t (by simp[zK,c])]
theorem B3(h:∀t∈c0 y,ea env2 t=ea env t):eQ gl env2 y=eQ gl env y/\eV env2 y=eV env y:=by
 cases y<;>simp only[eQ,eV,and_self];rename_i n;rcases rn (h n (by simp[c0]))with h|⟨cs,a,b,c⟩
 ·rw[h];exact⟨rfl,rfl⟩
 ·rw[b,c];exact⟨rfl,rfl⟩
theorem uH(h:ea env2 t=ea env t):e9 env2 t=e9 env t/\hc env2 t=hc env t:=by
 unfold e9 hc;rcases rn h with h|⟨cs,a,b,c⟩
 ·rw[h];exact⟨rfl,rfl⟩
 simp_all
variable {x:dc}
theorem NM{u:Nat}(h:ea env2 t=ea env t):ea (env2.ins u x) t=ea (env.ins u x) t:=by
 unfold ea at h ⊢;simp only[Env.hW];by_cases e:t=u
 ·simp only[if_pos e]
 ·simpa only[if_neg e]using h
variable {us:List (Nat×dc)}
theorem zU :∀{env env2:Env},ea env2 t=ea env t->ea (eR env2 us) t=ea (eR env us) t:=by
 induction us with
 |nil=>exact id|cons p us ih=>exact λh=>ih (NM h)
theorem NN :∀{env env2:Env},(∀t cs,env.get t=some (.b cs)↔env2.get t=some (.b cs))->∀t cs,(eR env us).get t=some (.b cs)↔(eR env2 us).get t=some (.b cs):=by
 induction us with
 |nil=>exact id|cons p us ih=>exact λh=>ih λt cs=>by simp only[Env.hW];split<;>simp[h]
theorem zV{vs:List (Nat×dc)}:∀{env:Env},eR env (us++vs)=eR (eR env us) vs/\(mc W k env us->mc W k (eR env us) vs->mc W k env (us++vs)):=by
 induction us with
 |nil=>exact⟨rfl,λ_ h=>h⟩|cons p us ih=>exact⟨ih.1,λa b=>⟨a.1,ih.2 a.2 b⟩⟩
theorem ff:me W k env env2 H H2 none none:=⟨none,be,rfl,rfl⟩
theorem yc{α:Type}{o:Option α}{f b:α->Option au}(h:∀a,me W k env env2 H H2 (f a) (b a)):me W k env env2 H H2 (o.bind f) (o.bind b):=by
 cases o with
 |none=>exact ff|some a=>exact h a
variable {H':List ay}
theorem It(hk:k=4):me W k env env2 H H (some ⟨env,H'⟩) (some ⟨env2,H'⟩) :=
 ⟨some ([],λ_=>H'),λp ar=>by cases ar;exact⟨trivial,trivial,λh=>absurd hk h⟩,rfl,rfl⟩
theorem yd{X Y:Option au}{F:au->Option au}(h:me W k env env2 H H2 X Y)(a:∀(us:List (Nat×dc))(f:List ay->List ay),me W k (eR env us) (eR env2 us) (f H) (f H2) (F ⟨eR env us,f H⟩) (F ⟨eR env2 us,f H2⟩)) :
  me W k env env2 H H2 (X.bind F) (Y.bind F):=by
 obtain⟨b,c,rfl,rfl⟩:=h;cases b with
 |none=>exact ff|some p =>
  obtain⟨us,f⟩:=p;obtain⟨d,e,g⟩:=c _ rfl;obtain⟨V,i,j,l⟩:=a us f;refine⟨V.map λq=>(us++q.1,q.2∘f),λp ar=>?_,?_,?_⟩
  ·cases V with
   |none=>cases ar|some q =>
    cases ar;obtain⟨m,n,v3⟩:=i _ rfl;exact⟨zV.2 d m,zV.2 e n,λh=>by show q.2∘f=id;rw[v3 h,show f=id from g h];rfl⟩
  ·refine Eq.trans j ?_;cases V<;>simp[zV (W:=W) (k:=k)]
  ·refine Eq.trans l ?_;cases V<;>simp[zV (W:=W) (k:=k)]
theorem B0{c c2:Bool}(b:c2=c)(a:c=true->zT W k env t x/\zT W k env2 t x):me W k env env2 H H2 (if c=true then some ⟨env.ins t x,H⟩else none) (if c2=true then some ⟨env2.ins t x,H2⟩else none):=by
 subst b;by_cases hk:c2=true
 ·rw[if_pos hk,if_pos hk];exact⟨some ([(t,x)],id),λp ar=>by cases ar;exact⟨⟨(a hk).1,trivial⟩,⟨(a hk).2,trivial⟩,λ_=>rfl⟩,rfl,rfl⟩
 simp_all[ff]
theorem mf{y:AV}(h:ea env2 t=ea env t)(a:t∈W):me W k env env2 H H2 ((⟨env,H⟩:au).put t y) ((⟨env2,H2⟩:au).put t y) :=
 B0 (uH h).1 λhk=>⟨⟨a,hk⟩,a,(uH h).1.trans hk⟩
theorem Iv{y:AV}(hk:k=4)(h:ea env2 t=ea env t)(a:t∈W):me W k env env2 H H ((⟨env,H'⟩:au).put t y) ((⟨env2,H'⟩:au).put t y) :=
 yd (F:=λs=>s.put t y) (It (H':=H') hk) λ_ _=>mf (zU h) a
variable {o:cW}
theorem fD(h:jh o=some t):t∈dQ o:=by simp[dQ,h]
theorem EI(h:t∈sm o):t∈dQ o:=by simp[dQ,h]
variable {p:l0}
theorem B1(ar:eQ gl env y=some p):(eV env y=4↔uK p=true)/\(eV env y=3↔∃cs,p=.jV cs):=by
 cases y<;>simp only[eQ,eV,reduceCtorEq]at ar ⊢;all_goals split at ar<;>cases ar<;>simp_all[uK]
theorem NP{vs:List AV}(hk:k=if uK p=true then 4 else 3)(b:k=4->H2=H)(ae:k=3->∀t cs,env.get t=some (.b cs)↔env2.get t=some (.b cs)) :
  me W k env env2 H H2 (bb ⟨env,H⟩ vs p) (bb ⟨env2,H2⟩ vs p):=by
 cases p with
 |jV cs=>exact ff|ar id off =>
  simp[uK]at hk;cases b hk;simp only[bb];split
  ·split
   ·exact It hk
   ·exact ff
  ·split
   ·exact It hk
   ·exact ff
  ·exact ff
 |eK t off =>
  simp[uK]at hk;have ae:=ae hk t;simp only[bb];split
  ·rename_i cs a;rw[(ae cs).1 a];have:=B0 (W:=W) (k:=k) (env:=env) (env2:=env2) (H:=H) (H2:=H2) (t:=t) (x:=.b (setCells cs off vs)) (c:=decide (off+vs.length<=cs.length)) rfl λ_=>⟨.inr ⟨hk,cs,a⟩,.inr ⟨hk,cs,(ae cs).1 a⟩⟩;simpa only[decide_eq_true_eq]using this
  ·rename_i a;split
   ·rename_i cs d;exact absurd ((ae cs).2 d) (a cs)
   ·exact ff
variable {s:au}{m:Nat}
theorem lB(h:eV s.env (gk o)=m):aJ gl s (.on m o)=aJ gl s o:=by simp only[aJ,h,if_true]
theorem lC(h:¬eV s.env (gk o)=m):aJ gl s (.on m o)=none:=by simp only[aJ,h,if_false]
theorem apS(hk:bH o≠9)(h:Alike o env env2)(g:qp o H H2):me (dQ o) (bH o) env env2 H H2 (aJ gl ⟨env,H⟩ o) (aJ gl ⟨env2,H2⟩ o):=by
 have j:∀t∈dD o,ea env2 t=ea env t:=λt a=>h.wj t (.inl a);have hd:∀t,jh o=some t->ea env2 t=ea env t/\t∈dQ o:=λt a=>⟨h.wj t (.inr (fD a)),fD a⟩;have ax:∀t∈sm o,ea env2 t=ea env t/\t∈dQ o:=λt a=>⟨h.wj t (.inr (EI a)),EI a⟩;cases o
 case on m o =>
  obtain⟨q,D⟩:=B3 (gl:=gl) (y:=gk o) (env:=env) (env2:=env2) λt a=>j t (by cases o<;>simp_all[gk,dD,c0]);by_cases hm:eV env (gk o)=m
  case neg=>rw[lC (s:=⟨env,H⟩) hm,lC (s:=⟨env2,H2⟩) (by simpa only[D]using hm)];exact ff
  rw[lB (s:=⟨env,H⟩) hm,lB (s:=⟨env2,H2⟩) (by simpa only[D]using hm)];have E:∀{p vs}(us:List (Nat×dc))(f:List ay->List ay),eQ gl env (gk o)=some p->(bH (.on m o)=if m=4 then 4 else 3)->me (dQ (.on m o)) (bH (.on m o)) (eR env us) (eR env2 us) (f H) (f H2) (bb ⟨eR env us,f H⟩ vs p) (bb ⟨eR env2 us,f H2⟩ vs p):=by
   intro p vs us f ar B;have A:=(B1 ar).1;rw[hm]at A;refine NP (by rw[B];simp only[A]) (λA=>?_) (λO=>NN (h.eK (.inl O)));rw[qp]at g;exact congrArg f g;exact A
  cases o<;>simp only[gk]at q hm E<;>try exact absurd rfl hk
  case fz d y off =>
   simp only[aJ,q];cases ar:eQ gl env y with
   |none=>exact ff|some p =>
    cases p with
    |eK t o=>simp only[bH]at hk;have:=B1 ar;simp_all[uK]|ar id o=>exact mf (hd d rfl).1 (hd d rfl).2|jV cs=>simp only;split<;>first|exact mf (hd d rfl).1 (hd d rfl).2|exact ff
  case hL d y =>
   cases y with
   |t n =>
    have G:=h.wj n (.inl (by simp[dD,c0]));simp only[eV]at hm;simp only[aJ];rcases rn G with e|⟨cs,w,l,r⟩
    ·rw[e];split<;>first|exact mf (hd d rfl).1 (hd d rfl).2|exact ff|(exfalso;simp only[*]at hm;subst hm;simp[bH]at hk)
    ·rw[l]at hm;subst hm;simp[bH]at hk
   |_=>exact ff
  case ld d y n nB =>
   simp only[aJ,q];cases ar:eQ gl env y with
   |none=>exact ff|some p =>
    have C:=B1 ar;have key:bd ⟨env2,H2⟩ n p=bd ⟨env,H⟩ n p:=by
     cases p with
     |jV cs=>rfl|ar id off =>
      have:m=4:=by rw[<-hm];exact C.1.2 rfl
      subst this;exact g n id off
     |eK t off =>
      have A:m≠4/\m≠3:=by rw[<-hm];simp[uK]at C;exact C
      have ae:=h.eK (.inr (by simp only[bH]at hk ⊢;rw[if_neg A.2,if_neg A.1]at hk ⊢;split<;>simp_all)) t;simp only[bd];split
      ·rename_i cs q;rw[(ae cs).2 q]
      ·rename_i q;split
       ·rename_i cs D;exact absurd ((ae cs).1 D) (q cs)
       ·rfl
    simp only[aKF,key];refine yc λcs=>?_;split
    ·exact mf (hd d rfl).1 (hd d rfl).2
    ·split<;>first|exact mf (hd d rfl).1 (hd d rfl).2|exact ff
  case je d y e sz =>
   simp only[aJ,q];cases ar:eQ gl env y with
   |none=>exact ff|some p =>
    have C:=B1 ar;have B:bH (.on m (.je d y e sz))=if m=4 then 4 else 3:=by simp only[bH]at hk ⊢;split<;>simp_all
    have key:bd ⟨env2,H2⟩ 1 p=bd ⟨env,H⟩ 1 p:=by
     cases p with
     |jV cs=>rfl|ar id off =>
      have:m=4:=by rw[<-hm];exact C.1.2 rfl
      subst this;rw[show H2=H from g];rfl
     |eK t off =>
      have A:m≠4:=by rw[<-hm];simp[uK]at C;exact C.1
      have ae:=h.eK (.inl (by rw[B,if_neg A])) t;simp only[bd];split
      ·rename_i cs q;rw[(ae cs).2 q]
      ·rename_i q;split
       ·rename_i cs D;exact absurd ((ae cs).1 D) (q cs)
       ·rfl
    simp only[aKF,key];refine yc λcs=>?_;split
    ·exact yd (F:=λs=>s.put d _) (E [] id ar B) λ_ _=>mf (zU (hd d rfl).1) (hd d rfl).2
    ·exact mf (hd d rfl).1 (hd d rfl).2
    ·exact ff
  case st n y v =>
   have B:bH (.on m (.st n y v))=if m=4 then 4 else 3:=by simp only[bH]at hk ⊢;split<;>simp_all
   simp only[aJ,q,mP (gl:=gl) (y:=v) λt a=>j t l8];cases ar:eQ gl env y with
   |none=>exact ff|some p =>
    refine yc (o:=br gl env v) λu=>?_;split
    ·exact E [] id ar B
    ·exact ff
  case ir y v =>
   have B:bH (.on m (.ir y v))=if m=4 then 4 else 3:=by simp only[bH]at hk ⊢;split<;>simp_all
   simp only[aJ,q];cases ar:eQ gl env y with
   |none=>exact ff|some p =>
    have J:=ax v (by simp[sm]);simp only[aKF];rcases rn J.1 with e|⟨cs,w,l,r⟩
    ·rw[e];split
     ·exact yd (F:=λs=>bb s _ p) (mf J.1 J.2) λus f=>E us f ar B
     ·exact ff
    ·rw[l,r];exact ff
 case p9 d y =>
  have hd:=hd d rfl;have ax:=ax y (by simp[sm]);simp only[aJ];rcases rn ax.1 with e|⟨cs,w,l,r⟩
  ·rw[e];split
   ·split
    ·exact ff
    ·exact yd (F:=λs=>s.put d _) (mf ax.1 ax.2) λ_ _=>mf (zU hd.1) hd.2
   ·exact mf hd.1 hd.2
   ·exact ff
  ·rw[l,r];exact ff
 case ext d y i =>
  have hd:=hd d rfl;simp only[aJ];rcases rn (j y (by simp[dD]))with e|⟨cs,w,l,r⟩
  ·rw[e];split
   ·exact yc λv=>mf hd.1 hd.2
   ·exact ff
  ·rw[l,r];exact ff
 case app d u y e sz =>
  have hd:=hd d rfl;have ax:=ax u (by simp[sm]);simp only[aJ,mP (gl:=gl) (y:=y) λt a=>j t l8];rcases rn ax.1 with e|⟨cs,w,l,r⟩
  ·rw[e];split
   ·split
    ·exact yd (F:=λs=>s.put d _) (mf ax.1 ax.2) λ_ _=>mf (zU hd.1) hd.2
    ·exact ff
   ·split<;>first|exact mf hd.1 hd.2|exact ff
   ·exact ff
  ·rw[l,r];exact ff
 case q5 ks m kk v =>
  have ax:=ax v (by simp[sm]);have g:H2=H:=g;subst g;simp only[aJ,mP (gl:=gl) (y:=m) λt a=>j t l8,mP (gl:=gl) (y:=kk) λt a=>j t l8];rcases rn ax.1 with e|⟨cs,w,l,r⟩
  ·rw[e]
   repeat' (first|exact Iv rfl ax.1 ax.2|exact ff|split)
  ·rw[l,r]
   repeat' (first|exact ff|(rename_i G;simp at G;done)|split)
 case fz d y off =>
  have hd:=hd d rfl;simp only[aJ,(B3 (gl:=gl) (y:=y) λt a=>j t (by simpa[dD]using a)).1];split
  ·exact B0 (uH hd.1).1 λhk=>⟨⟨hd.2,hk,rfl⟩,hd.2,(uH hd.1).1.trans hk,rfl⟩
  ·exact mf hd.1 hd.2
  ·split<;>first|exact mf hd.1 hd.2|exact ff
  ·exact ff
 case alloc d z =>
  have hd:=hd d rfl;have:=B0 (W:=dQ (.alloc d z)) (k:=2) (env:=env) (env2:=env2) (H:=H) (H2:=H2) (t:=d) (x:=.b z) (c:=!(mD env d||hc env d)) (c2:=!(mD env2 d||hc env2 d)) (by rw[h.aG rfl d,(uH hd.1).2]) (λhk=>by
   have:hc env d=false:=by simp at hk;exact hk.2
   exact⟨.inl ⟨hd.2,rfl,this⟩,.inl ⟨hd.2,rfl,(uH hd.1).2.trans this⟩⟩)
  simp only[aJ,au.lZ];cases Q:(mD env d||hc env d)<;>cases R:(mD env2 d||hc env2 d)<;>simpa[Q,R,bH]using this
 case look ks d m kk z ok =>
  have hd:=hd d rfl;simp only[aJ,mP (gl:=gl) (y:=m) λt a=>j t l8,mP (gl:=gl) (y:=kk) λt a=>j t l8];split
  ·rename_i id _ _ _;rcases(g:∀id:Nat,H2[id]?=H[id]?\/gone H[id]?/\gone H2[id]?) id with e|⟨l,r⟩
   ·rw[e];repeat' (first|exact mf hd.1 hd.2|exact ff|split)
   ·have:∀x:Option ay,gone x->∀n es,x≠some (.map n es):=by rintro _ L _ _ rfl;exact L
    split
    ·exact absurd mu (this _ l _ _)
    ·split
     ·exact absurd mu (this _ r _ _)
     ·exact ff
  ·repeat' (first|exact mf hd.1 hd.2|exact ff|split)
  ·exact ff
 case len d m y =>
  have hd:=hd d rfl;simp only[aJ,mP (gl:=gl) (y:=y) λt a=>j t (by simpa[dD]using a)];split
  case h_7 =>
   rename_i id _;by_cases hm:m=2
   ·subst hm;rcases(g:∀id:Nat,H2[id]?=H[id]?\/gone H[id]?/\gone H2[id]?) id with e|⟨l,r⟩
    ·rw[e];repeat' (first|exact mf hd.1 hd.2|exact ff|split)
    ·have:∀x:Option ay,gone x->∀n es,x≠some (.map n es):=by rintro _ L _ _ rfl;exact L
     simp only[if_true];split
     ·exact absurd mu (this _ l _ _)
     ·split
      ·exact absurd mu (this _ r _ _)
      ·exact ff
   ·rw[if_neg hm,if_neg hm];exact ff
  all_goals repeat' (first|exact mf hd.1 hd.2|exact ff|split)
 case lW b n y v =>
  have g:H2=H:=g;subst g;simp only[aJ,mP (gl:=gl) (y:=y) λt a=>j t l8,mP (gl:=gl) (y:=v) λt a=>j t l8];cases qe b n H2 (br gl env y) (br gl env v)with
  |none=>exact ff|some H'=>exact It rfl
 case qc ks m kk v =>
  have g:H2=H:=g;subst g;simp only[aJ,mP (gl:=gl) (y:=m) λt a=>j t l8,mP (gl:=gl) (y:=kk) λt a=>j t l8,mP (gl:=gl) (y:=v) λt a=>j t l8]
  repeat' (first|exact It rfl|exact ff|split)
 all_goals first
  |exact absurd rfl hk|exact ff|skip
 all_goals
  simp only[jh,Option.some.injEq,forall_eq']at hd;simp only[dD]at j;try have g:H2=H:=g
  try subst g
  simp(disch:=(intro t a;apply j;simp[a])) only[aJ,mP (env:=env) (env2:=env2),zM (env:=env) (env2:=env2),apR (env:=env) (env2:=env2),V4 (env:=env) (env2:=env2),B3 (env:=env) (env2:=env2)]
  repeat' (first|exact mf hd.1 hd.2|exact Iv rfl hd.1 hd.2|exact ff|(refine yc λ_=>?_)|split)
end
def Ix(a b:List Nat):Bool:=a.all λt=>!b.contains t
theorem Iy{a b:List Nat}(h:Ix a b=true){t:Nat}(aG:t∈a):t∉b:=by simpa using aKO.1 h t aG
section
variable {P:Program}{gl:cQ}{D:bj}{env env2:Env}{H H2 H':List ay}{o a b:cW}{W:List Nat}{k:Nat}{K K2:au->Prop}{us vs:List (Nat×dc)}
def uF(k:Nat)(H H':List ay):Prop:=k≠4->H'=H\/k=6/\∃n,H'=H++aKE n .dead
def B5(X:Option au)(K:au->Prop):Prop:=match X with|some s'=>K s'|none=>False
def EH(o:cW)(env env2:Env)(H H2:List ay)(K K2:au->Prop):Prop:=∀us H' yb,mc (dQ o) (bH o) env us->mc (dQ o) (bH o) env2 us->uF (bH o) H H'->((bH o=4\/bH o=6)/\yb=H'\/(bH o≠4/\bH o≠6)/\yb=H2)->K ⟨eR env us,H'⟩->K2 ⟨eR env2 us,yb⟩
def B2(o:cW)(env:Env)(H:List ay)(K:au->Prop):Prop:=∃us H',mc (dQ o) (bH o) env us/\uF (bH o) H H'/\K ⟨eR env us,H'⟩
theorem wk{X Y:Option au}(i:bH o=4\/bH o=6->H2=H)(h:me (dQ o) (bH o) env env2 H H2 X Y)(j:EH o env env2 H H2 K K2)(ah:B5 X K):B5 Y K2/\B2 o env H K:=by
 obtain⟨l,m,rfl,rfl⟩:=h;cases l with
 |none=>exact ah.elim|some p =>
  obtain⟨us,f⟩:=p;obtain⟨d,n,e⟩:=m _ rfl;have g:uF (bH o) H (f H):=λh=>.inl (by rw[show f=id from e h];rfl);refine⟨j us (f H) (f H2) d n g ?_ ah,us,f H,d,g,ah⟩;by_cases c:bH o=4\/bH o=6
  ·exact .inl ⟨c,by rw[i c]⟩
  ·rw[not_or]at c;exact .inr ⟨c,by rw[show f=id from e c.1];rfl⟩
theorem Iw{d:Option Nat}{r:AV}(h:Alike o env env2)(hd:∀u,d=some u->jh o=some u)(e:bH o=4\/bH o=6)(g:EH o env env2 H H K K2)(c:uF (bH o) H H')(ah:B5 ((⟨env,H'⟩:au).fO d r) K) :
  B5 ((⟨env2,H'⟩:au).fO d r) K2/\B2 o env H K:=by
 cases d with
 |none=>exact⟨g [] H' H' trivial trivial c (.inl ⟨e,rfl⟩) ah,[],H',trivial,c,ah⟩|some d =>
  have hm:=fD (hd d rfl);have i:=uH (h.wj d (.inr hm));simp only[au.fO,au.put,i.1]at ah ⊢;by_cases hk:e9 env d=true
  ·rw[if_pos hk]at ah ⊢;have j:mc (dQ o) (bH o) env [(d,.v r)]:=⟨⟨hm,hk⟩,trivial⟩;exact⟨g _ H' H' j ⟨⟨hm,i.1.trans hk⟩,trivial⟩ c (.inl ⟨e,rfl⟩) ah,_,H',j,c,ah⟩
  ·rw[if_neg hk]at ah;exact ah.elim
theorem zR(hk:bH o≠9)(h:Alike o env env2)(i:qp o H H2)(q:EH o env env2 H H2 K K2)(bA:dj P gl D ⟨env,H⟩ K o):dj P gl D ⟨env2,H2⟩ K2 o/\B2 o env H K:=by
 have s:bH o=4\/bH o=6->H2=H:=by
  unfold qp at i;rintro(e|e)<;>(rw[e]at i;exact i)
 have j:∀t∈dD o,ea env2 t=ea env t:=λt l=>h.wj t (.inl l);have key:∀{d f xs}{Z:List ay->Prop},bH o=4\/bH o=6->H2=H->(∀u,d=some u->jh o=some u)->(∀H',Z H'->uF (bH o) H H')->kv P gl f xs H (λr H'=>Z H'/\B5 ((⟨env,H'⟩:au).fO d r) K) ->
   kv P gl f xs H2 (λr H'=>Z H'/\B5 ((⟨env2,H'⟩:au).fO d r) K2)/\B2 o env H K:=by
  intro d f xs Z w e hd z ah;subst e;refine⟨ah.mono λr H' c=>⟨c.1,(Iw h hd w q (z _ c.1) c.2).1⟩,?_⟩;obtain⟨r,H',c⟩:=ah.2;exact(Iw h hd w q (z _ c.1) c.2).2
 cases o
 case eP d f xs =>
  simp only[dj,zM (gl:=gl) (ys:=xs) j]at bA ⊢;cases g:e8 gl env xs with
  |none=>rw[g]at bA;exact bA.elim|some vs =>
   rw[g]at bA;obtain⟨B,v⟩:=bA;cases A:D f (vs.map AV.a1)with
   |none=>simp only[A]at v|some r =>
    simp only[A]at v ⊢;have:me (dQ (.eP d f xs)) (bH (.eP d f xs)) env env2 H H2 ((⟨env,H⟩:au).fO d r) ((⟨env2,H2⟩:au).fO d r):=by
     cases d with
     |none=>exact⟨some ([],id),λp ar=>by cases ar;exact⟨trivial,trivial,λ_=>rfl⟩,rfl,rfl⟩|some d=>exact mf (h.wj d (.inr (fD rfl))) (fD rfl)
    obtain⟨C,E⟩:=wk s this q v.2;exact⟨⟨B,v.1,C⟩,E⟩
 case iu d f xs =>
  simp only[dj,zM (gl:=gl) (ys:=xs) j]at bA ⊢;cases g:e8 gl env xs with
  |none=>rw[g]at bA;exact bA.elim|some vs =>
   rw[g]at bA;have:=key (Z:=λ_=>True) (.inl rfl) (s (.inl rfl)) (λu m=>by simpa[jh]using m) (λ_ _ h=>absurd rfl h) (bA.mono λr H' c=>⟨trivial,c⟩);exact⟨this.1.mono λr H' c=>c.2,this.2⟩
 case mC d f xs =>
  simp only[dj,zM (gl:=gl) (ys:=xs) j]at bA ⊢;have e:H2=H:=i;subst e;cases g:e8 gl env xs with
  |none=>rw[g]at bA;exact bA.elim|some vs =>
   rw[g]at bA;have:=key (Z:=λH'=>∃n,H'=H2++aKE n .dead) (.inr rfl) rfl (λu m=>by simpa[jh]using m) (λ_ c _=>.inr ⟨rfl,c⟩) bA;exact this
 case lY d x xs =>
  simp only[dj,zM (gl:=gl) (ys:=xs) λt l=>j t (by simp[dD,l]),mP (gl:=gl) (y:=x) λt l=>j t (by simp[dD,l])]at bA ⊢;split at bA
  ·have:=key (Z:=λ_=>True) (.inl rfl) (s (.inl rfl)) (λu m=>by simpa[jh]using m) (λ_ _ h=>absurd rfl h) (bA.mono λr H' c=>⟨trivial,c⟩);exact⟨this.1.mono λr H' c=>c.2,this.2⟩
  ·exact bA.elim
 all_goals first
  |exact absurd rfl hk|exact wk s (apS hk h i) q bA
def qo(o:cW):Bool:=bH o != 4&&bH o != 6&&bH o != 9
def Iz:cW->Bool
 |.eP _ _ _|.iu _ _ _|.lY _ _ _|.lX _ _ _ _|.mC _ _ _|.nU _ _=>false|_=>true
variable {s:au}
theorem Iu(hk:Iz o=true):dj P gl D s K o↔∃c,aJ gl s o=some c/\K c:=by
 have d:(match aJ gl s o with|some s'=>K s'|none=>False)↔∃c,aJ gl s o=some c/\K c:=by grind
 cases o<;>first|exact d|cases hk
theorem EJ(hk:qo o=true)(c:dj P gl D s K o)(e:dj P gl D s K2 o):∃g,K g/\K2 g/\dj P gl D s (λs'=>s'=g) o:=by
 by_cases h:∃d f xs,o=.eP d f xs
 ·obtain⟨d,f,xs,rfl⟩:=h;simp only[dj]at c e ⊢;cases he:e8 gl s.env xs with
  |none=>rw[he]at c;exact c.elim|some vs =>
   rw[he]at c e;cases l:D f (vs.map AV.a1)with
   |none=>simp_all|some r =>
    simp only[l]at c e ⊢;cases ar:s.fO d r with
    |none=>simp_all|some g=>simp only[ar]at c e ⊢;exact⟨g,c.2.2,e.2.2,c.1,c.2.1,rfl⟩
 ·have aE:Iz o=true:=by
   cases o<;>first|rfl|exact absurd ⟨_,_,_,rfl⟩ h|cases hk
  obtain⟨g,i,c⟩:=(Iu aE).1 c;obtain⟨m,j,e⟩:=(Iu aE).1 e;rw[i]at j;cases j;exact⟨g,c,e,(Iu aE).2 ⟨g,i,rfl⟩⟩
variable {t:Nat}
theorem Iq(e:Env){u:Nat}(x y:dc)(h:t≠u):(e.ins t x).ins u y=(e.ins u y).ins t x:=by
 induction e with
 |nil=>grind[Env.ins]|cons p r ih =>
  obtain⟨k,z⟩:=p;simp only[Env.ins];rcases Nat.lt_trichotomy t k with c|c|c<;>rcases Nat.lt_trichotomy u k with d|d|d<;>grind[Env.ins]
variable {x:dc}
theorem IA :∀{us:List (Nat×dc)}{env:Env},(∀p∈us,p.1≠t)->(eR env us).ins t x=eR (env.ins t x) us
 |[],_,_=>rfl|(u,y)::us,env,h=>by simp only[eR];rw[IA λp ar=>h p (by simp[ar]),Iq _ _ _ (h (u,y) be)]
theorem IB:∀{us vs:List (Nat×dc)}{env:Env},(∀p∈us,∀q∈vs,p.1≠q.1)->eR (eR env us) vs=eR (eR env vs) us
 |us,[],_,_=>rfl|us,(t,x)::vs,env,h=>by simp only[eR];rw[IA λp ar=>h p ar (t,x) be,IB λp ar q c=>h p ar q (by simp[c])]
theorem Wh:∀{us:List (Nat×dc)}{env:Env},env.et->(eR env us).et
 |[],_,h=>h|(t,x)::us,_,h=>Wh (us:=us) (Env.et.ins h t x)
theorem V3{d:Nat}(ah:∀u off,x≠.a u off)(aE:∀u off,env.get d≠some (.a u off))(ax:env.et):mD (env.ins d x) t=mD env t:=by
 rw[Bool.eq_iff_iff];simp only[mD,List.any_eq_true];constructor
 ·rintro⟨p,ar,c⟩;rcases Env.Uv ar with rfl|ar
  ·cases x with
   |a u off=>exact absurd rfl (ah u off)|_=>simp at c
  ·exact⟨p,ar,c⟩
 ·rintro⟨⟨k,e⟩,ar,c⟩;cases e with
  |a u off =>
   have g:=Env.get_of_mem ax ar;have hk:k≠d:=by rintro rfl;exact aE _ _ g
   exact⟨(k,.a u off),Env.tc (by rw[Env.hW,if_neg hk];exact g),c⟩
  |_=>simp at c
theorem NZ:∀{us:List (Nat×dc)}{env:Env},mc W k env us->∀p∈us,p.1∈W\/k=3/\∃cs,env.get p.1=some (.b cs)
 |[],_,_,_,ar=>by simp at ar|(t,x)::us,env,h,p,ar=>by
  have g:t∈W\/k=3/\∃cs,env.get t=some (.b cs):=by
   have:=h.1;cases x<;>simp only[zT]at this<;>grind
  rcases aKD.1 ar with rfl|ar
  ·exact g
  ·rcases NZ h.2 p ar with c|⟨c,cs,d⟩
   ·exact .inl c
   ·rw[Env.hW]at d;split at d
    ·rename_i e;rw[e];exact g
    ·exact .inr ⟨c,cs,d⟩
theorem EK :∀{us:List (Nat×dc)}{env:Env},mc W k env us->t∉W->ea (eR env us) t=ea env t
 |[],_,_,_=>rfl|(u,x)::us,env,h,c=>by
  simp only[eR];rw[EK h.2 c];unfold ea;rw[Env.hW];by_cases e:t=u
  ·subst e;rw[if_pos rfl];have:=h.1;cases x<;>simp only[zT]at this
   ·exact absurd this.1 c
   ·rcases this with h|⟨_,cs,h⟩
    ·exact absurd h.1 c
    ·rw[h]
   ·exact absurd this.1 c
  ·rw[if_neg e]
theorem NY(g:k≠2)(i:k≠3):∀{us:List (Nat×dc)}{env:Env},mc W k env us->(∀t cs,(eR env us).get t=some (.b cs)↔env.get t=some (.b cs))/\∀p∈us,∀cs,env.get p.1≠some (.b cs)
 |[],_,_=>⟨λ_ _=>.rfl,be⟩|(u,x)::us,env,h=>by
  obtain⟨j,l⟩:=NY g i h.2;have c:(∀cs,x≠.b cs)/\∀cs,env.get u≠some (.b cs):=by
   have:=h.1;cases x<;>simp only[zT,e9]at this<;>grind
  refine⟨λt cs=>(j t cs).trans ?_,λp ar cs e=>?_⟩
  ·rw[Env.hW];split
   ·rename_i e;subst e;exact⟨λe=>absurd (Option.some.inj e) (c.1 cs),λe=>absurd e (c.2 cs)⟩
   ·exact .rfl
  ·rcases aKD.1 ar with rfl|ar
   ·exact c.2 cs e
   ·by_cases d:p.1=u
    ·rw[d]at e;exact c.2 cs e
    ·exact l p ar cs (by rw[Env.hW,if_neg d];exact e)
theorem N0(c:k≠1):∀{us:List (Nat×dc)}{env:Env},env.et->mc W k env us->∀t,mD (eR env us) t=mD env t
 |[],_,_,_,_=>rfl|(u,x)::us,env,ax,h,t=>by
  simp only[eR];rw[N0 c (Env.et.ins ax u x) h.2 t];have:=h.1;refine V3 (λv off e=>?_) (λv off e=>?_) ax
  ·subst e;exact c this.2.2
  ·cases x<;>simp only[zT,e9,hc,e]at this<;>simp_all
def wi(a b:cW):Bool:=qo a&&bH b != 9&&(bH a != 5||bH b != 4) &&
 !((bH a==2&&(bH b==1||bH b==3||bH b==7))||(bH b==2&&(bH a==1||bH a==3||bH a==7))||(bH a==3&&(bH b==3||bH b==7))||(bH b==3&&bH a==7))
structure zS(a b:cW):Prop where
 tz:∀t∈dQ a,t∉dD b/\t∉dQ b
 uJ:∀t∈dQ b,t∉dD a/\t∉dQ a
 NQ:bH a=2->bH b≠1/\bH b≠3/\bH b≠7
 en:bH b=2->bH a≠1/\bH a≠3/\bH a≠7
 a3:bH a=3->bH b≠3/\bH b≠7
 lD:bH b=3->bH a≠3/\bH a≠7
theorem zS.symm(h:zS a b):zS b a:=⟨h.uJ,h.tz,h.en,h.NQ,h.lD,h.a3⟩
theorem zS.alike(h:zS a b)(ax:env.et)(c:mc (dQ b) (bH b) env us):Alike a env (eR env us)/\Alike a (eR env us) env:=by
 have wj:∀t,t∈dD a\/t∈dQ a->ea (eR env us) t=ea env t:=λt d=>EK c λg=>by
  have:=h.uJ t g;simp_all
 have aG:bH a=2->∀t,mD (eR env us) t=mD env t:=λe=>N0 (h.NQ e).1 ax c;have eK:bH a=3\/bH a=7->∀t cs,(eR env us).get t=some (.b cs)↔env.get t=some (.b cs):=λe=>(NY (λi=>by have:=h.en i;omega) (λj=>by have:=h.lD j;omega) c).1;exact⟨⟨wj,aG,λe t cs=>(eK e t cs).symm⟩,λt d=>(wj t d).symm,λe t=>(aG e t).symm,eK⟩
theorem zS.comm(h:zS a b)(j:mc (dQ a) (bH a) env us)(l:mc (dQ b) (bH b) env vs):∀{e:Env},eR (eR e us) vs=eR (eR e vs) us:=IB λp ar q m e=>by
 rcases NZ j p ar with c|⟨c,cs,d⟩
 ·rcases NZ l q m with g|⟨g,cs,i⟩
  ·exact(h.tz _ c).2 (e▸g)
  ·by_cases d:bH a=2
   ·exact(h.NQ d).2.1 g
   ·exact(NY d (h.lD g).1 j).2 p ar cs (by rw[e];exact i)
 ·by_cases i:bH b=2
  ·exact(h.en i).2.1 c
  ·exact(NY i (h.a3 c).1 l).2 q m cs (by rw[<-e];exact d)
theorem IC(h:qo a=true)(c:∀id:Nat,H2[id]?=H[id]?\/gone H[id]?/\gone H2[id]?):qp a H H2:=by
 unfold qp;split
 ·rename_i e;simp[qo,e]at h
 ·rename_i e;simp[qo,e]at h
 ·intro n id off;have:∀x:List ay,gone x[id]?->bd ⟨[],x⟩ n (.ar id off)=none:=λx d=>by
   simp only[bd];split<;>first|rfl|(rename_i e;rw[e]at d;exact d.elim)
  rcases c id with e|⟨g,i⟩
  ·simp only[bd,e]
  ·rw[this _ g,this _ i]
 ·exact c
 ·trivial
theorem ya:qp a H H:=by
 unfold qp;split<;>first|rfl|trivial|(intros;rfl)|(intros;exact .inl rfl)
theorem IK(h:qo a=true)(c:bH a=5->bH b≠4)(d:uF (bH b) H H'):qp a H H'/\qp a H' H:=by
 by_cases g:bH a=5
 ·rcases d (c g)with e|⟨_,n,e⟩
  ·simp_all[ya]
  ·have:∀id:Nat,H'[id]?=H[id]?\/gone H[id]?/\gone H'[id]?:=λid=>by
    rw[e,List.getElem?_append];split
    ·exact .inl rfl
    ·rename_i i;refine .inr ⟨by rw[List.getElem?_eq_none am];trivial,?_⟩;rw[List.getElem?_replicate];split<;>trivial
   exact⟨IC h this,IC h λid=>(this id).imp Eq.symm And.symm⟩
 ·constructor<;>unfold qp<;>split<;>first|trivial|contradiction|(rename_i e;simp[qo,e]at h)
theorem EM(c:(bH b=4\/bH b=6)/\H2=H'\/(bH b≠4/\bH b≠6)/\H2=H)(d:uF (bH b) H H'):H2=H':=by
 rcases c with⟨_,e⟩|⟨⟨g,i⟩,e⟩
 ·exact e
 ·rcases d g with j|⟨h,_⟩
  ·rw[e,j]
  ·exact absurd h i
theorem alike_refl:Alike a env env:=⟨λ_ _=>rfl,λ_ _=>rfl,λ_ _ _=>.rfl⟩
section
variable {Z:List ay->Prop}(ax:env.et)(hd:qo a=true)(ae:bH b≠9)(h:zS a b)(o6:∀{env K},dj P gl D ⟨env,H⟩ K b->dj P gl D ⟨env,H⟩ (λs=>K s/\Z s.heap) b)
 (hH:∀H',uF (bH b) H H'->Z H'->qp a H H'/\qp a H' H)
include ax hd h hH
theorem IQ{i:au}(he:dj P gl D ⟨env,H⟩ (λs=>s=i) a):∃c,i=⟨eR env c,H⟩/\mc (dQ a) (bH a) env c /\
  ∀us H',mc (dQ b) (bH b) env us->uF (bH b) H H'->Z H'->dj P gl D ⟨eR env us,H'⟩ (λs=>s=⟨eR (eR env c) us,H'⟩) a:=by
 have hk:bH a≠9:=by intro e;simp[qo,e]at hd
 have d:¬(bH a=4\/bH a=6):=by rintro(e|e)<;>simp[qo,e]at hd
 obtain⟨c,m,n,g,e⟩:=(zR (K2:=λ_=>True) hk alike_refl ya (λ_ _ _ _ _ _ _ _=>trivial) he).2;have:m=H:=(g λe=>d (.inl e)).resolve_right λe=>d (.inr e.1);subst this;refine⟨c,e.symm,n,λus H' j g p=>(zR hk (zS.alike h ax j).1 (hH H' g p).1 (λw v y ba _ _ q l=>?_) he).1⟩;rcases q with⟨r,_⟩|⟨_,u⟩
 ·exact absurd r d
 ·rw[u,<-zS.comm h ba j];have:eR env w=eR env c:=by rw[<-e]at l;exact congrArg au.env l
  rw[this]
include o6 ae
theorem aqe(bA:dj P gl D ⟨env,H⟩ (λs=>dj P gl D s K b) a):dj P gl D ⟨env,H⟩ (λs=>dj P gl D s K a) b:=by
 obtain⟨p,g,_,he⟩:=EJ hd bA bA;obtain⟨q,rfl,i,j⟩:=IQ ax hd h hH he;refine(zR ae (zS.alike (zS.symm h) ax i).2 ya (λl H' r _ m c n d=>?_) (o6 g)).1;rw[EM n c];exact Io (j l H' m c d.2) λs e=>by rw[e];exact d.1
theorem aqg(bA:dj P gl D ⟨env,H⟩ (λs=>dj P gl D s K a) b):dj P gl D ⟨env,H⟩ (λs=>dj P gl D s K b) a:=by
 have hk:bH a≠9:=by intro e;simp[qo,e]at hd
 have bA:=o6 bA;obtain⟨w,g,i,j,l,m⟩:=(zR (K2:=λ_=>True) ae alike_refl ya (λ_ _ _ _ _ _ _ _=>trivial) bA).2;have cE:dj P gl D ⟨env,H⟩ (λ_=>True) a:=(zR hk (zS.alike h ax i).2 (hH g j m).2 (λ_ _ _ _ _ _ _ _=>trivial) l).1;obtain⟨y,_,_,he⟩:=EJ hd cE cE;obtain⟨z,rfl,n,p⟩:=IQ ax hd h hH he;refine Io he λs e=>?_;rw[e];refine(zR ae (zS.alike (zS.symm h) ax n).1 ya (λus H' A q _ c r d=>?_) bA).1;rw[EM r c];obtain⟨B,u,v,_⟩:=EJ hd d.1 (p us H' q c d.2);rw[<-v];exact u
end
theorem NR{i c d id:Nat}{es es2:List (AV×AV)}(h:H[i]?=some (.map c es))(n off:Nat):bd ⟨[],H.set i (.map d es2)⟩ n (.ar id off)=bd ⟨[],H⟩ n (.ar id off):=by
 simp only[bd];by_cases e:i=id
 ·subst e;rw[List.getElem?_set_self (List.getElem?_eq_some_iff.1 h).1,h]
 ·rw[aKS e]
theorem aql{ks:List Nat}{d:Nat}{m k:aL}{z:AV}{e:au}(h:aJ gl s (.iN ks d m k z)=some e)(n id off:Nat):bd ⟨[],e.heap⟩ n (.ar id off)=bd ⟨[],s.heap⟩ n (.ar id off):=by
 have g:∀{t:au}{y:AV}{c:au},t.put d y=some c->c.heap=t.heap:=by
  intro t y c ar;simp only[au.put]at ar;split at ar<;>simp at ar;rw[<-ar]
 simp only[aJ]at h
 repeat' (first|(cases h;done)|split at h)
 all_goals rw[g h]
 exact NR mu n off
variable {n:Nat}
theorem Wz{b:Bool}{x u:Option AV}(h:qe b n H x u=some H'):∃id i,(if b=true then ∃e cs,H[id]?=some (.buf e cs)else ∃cs,H[id]?=some (.cells cs))/\H'=H.set id i/\∀H2:List ay,H2[id]?=H[id]?->qe b n H2 x u=some (H2.set id i):=by
 unfold qe at h;split at h
 ·rename_i id off v;split at h
  ·rename_i cs c;split at h
   ·rename_i d;cases h;exact⟨id,_,by rw[d.1];exact⟨cs,c⟩,rfl,λH2 g=>by simp only[qe,g,c];rw[if_pos d]⟩
   ·cases h
  ·rename_i e cs c;split at h
   ·rename_i d;cases h;exact⟨id,_,by rw[d.1];exact⟨e,cs,c⟩,rfl,λH2 g=>by simp only[qe,g,c];rw[if_pos d]⟩
   ·cases h
  ·cases h
 ·cases h
theorem aqu{b g:Bool}(ae:b≠g){n':Nat}{x v m p:aL}(bA:dj P gl D s (λd=>dj P gl D d K (.lW g n' m p)) (.lW b n x v)):dj P gl D s (λd=>dj P gl D d K (.lW b n x v)) (.lW g n' m p):=by
 obtain⟨d,c,bA⟩:=(Iu rfl).1 bA;obtain⟨y,e,bA⟩:=(Iu rfl).1 bA;simp only[aJ,aKN]at c;obtain⟨z,c,rfl⟩:=c;simp only[aJ,aKN]at e;obtain⟨H2,e,rfl⟩:=e;obtain⟨i,A,h,rfl,q⟩:=Wz c;obtain⟨j,u,B,rfl,w⟩:=Wz e;have l:i≠j:=by
  rintro rfl;have r:=q _ rfl;rw[c]at r;have C:i<s.heap.length:=by cases b<;>simp at h<;>obtain⟨_,h⟩:=h<;>grind
  unfold qe at c;grind
 refine(Iu rfl).2 ⟨⟨s.env,s.heap.set j u⟩,?_,(Iu rfl).2 ⟨_,?_,bA⟩⟩
 ·simp only[aJ,w s.heap (by rw[aKS l])];rfl
 ·simp only[aJ,q (s.heap.set j u) (by rw[aKS (Ne.symm l)])];rw[List.set_comm _ _ (Ne.symm l)];rfl
end
section
variable {P:Program}{gl:cQ}{D:bj}{env env2:Env}{s:au}{K K':au->Prop}{a b:cW}{it:bq}
def IG:cW->cW->Bool
 |.on 4 (.ld _ _ _ _),.iN _ _ _ _ _=>true|.iN _ _ _ _ _,.on 4 (.ld _ _ _ _)=>true|.lW b _ _ _,.lW b5 _ _ _=>b != b5|_,_=>false
def ye(a b:cW):Bool:=wi a b||wi b a||IG a b
theorem NL(tz:∀t∈dQ a,t∉dD b/\t∉dQ b)(uJ:∀t∈dQ b,t∉dD a/\t∉dQ a)(h:wi a b=true):qo a=true/\bH b≠9/\zS a b/\(bH a=5->bH b≠4):=by
 simp only[wi,aKB,bne_iff_ne,aKL,Bool.not_eq_true',Bool.or_eq_false_iff,Bool.and_eq_false_iff,beq_eq_false_iff_ne]at h;exact⟨h.1.1.1,h.1.1.2,⟨tz,uJ,am,am,am,am⟩,am⟩
theorem NT(ax:s.env.et)(tz:∀t∈dQ a,t∉dD b/\t∉dQ b)(uJ:∀t∈dQ b,t∉dD a/\t∉dQ a)(ar:ye a b=true)(bA:dj P gl D s (λc=>dj P gl D c K b) a):dj P gl D s (λc=>dj P gl D c K a) b:=by
 have p:∀{env H K ks d m k z},dj P gl D ⟨env,H⟩ K (.iN ks d m k z)->dj P gl D ⟨env,H⟩ (λs=>K s/\∀n id off,bd ⟨[],s.heap⟩ n (.ar id off)=bd ⟨[],H⟩ n (.ar id off)) (.iN ks d m k z):=λh=>by
  obtain⟨c,e,h⟩:=(Iu rfl).1 h;exact(Iu rfl).2 ⟨c,e,h,aql e⟩
 simp only[ye,aKL]at ar;rcases ar with(ar|ar)|ar
 ·obtain⟨g,i,j,l⟩:=NL tz uJ ar;exact aqe (Z:=λ_=>True) ax g i j (λh=>Io h λ_ h=>⟨h,trivial⟩) (λ_ o _=>IK g l o) bA
 ·obtain⟨g,i,j,l⟩:=NL uJ tz ar;exact aqg (Z:=λ_=>True) ax g i j (λh=>Io h λ_ h=>⟨h,trivial⟩) (λ_ o _=>IK g l o) bA
 ·unfold IG at ar;split at ar
  ·exact aqe ax rfl mW ⟨tz,uJ,mW,mW,mW,mW⟩ p (λ_ _ z=>⟨z,λn id off=>(z n id off).symm⟩) bA
  ·exact aqg ax rfl mW ⟨uJ,tz,mW,mW,mW,mW⟩ p (λ_ _ z=>⟨z,λn id off=>(z n id off).symm⟩) bA
  ·exact aqu (by simpa using ar) bA
  ·cases ar
def nC(P:Program)(gl:cQ)(D:bj)(s:au)(K:au->Prop)(it:bq):Prop:=match mN s.env it.g with
 |some true=>dj P gl D s K it.o|some false=>(match jh it.o with
  |some d=>(match s.put d (.bg [])with|some s'=>K s'|none=>False)|none=>K s)
 |none=>False
theorem ES{r:List bq}:kx P gl D (it::r) s K↔nC P gl D s (λs'=>kx P gl D r s' K) it:=by
 simp only[kx,nC];all_goals rfl
theorem IE(hk:∀s,K s->K' s)(h:nC P gl D s K it):nC P gl D s K' it:=by
 simp only[nC]at h ⊢;split at h
 ·exact Io h hk
 ·grind
 ·exact h
def qq(it:bq):Bool->Option cW
 |true=>some it.o|false=>(jh it.o).map λd=>.hV d (.c (.bg []))
def sn(P:Program)(gl:cQ)(D:bj)(s:au)(K:au->Prop):Option cW->Prop
 |some o=>dj P gl D s K o|none=>K s
theorem ET{b:Bool}(c:mN s.env it.g=some b):nC P gl D s K it↔sn P gl D s K (qq it b):=by
 simp only[nC,c];cases b with
 |true=>exact Iff.rfl|false =>
  simp only[qq];cases jh it.o with
  |none=>exact Iff.rfl|some d=>simp only[Option.map_some,sn,dj,aJ,br,aKF,AV.a1]<;>exact Iff.rfl
def IF(it:bq):List Nat:=match it.g with|some (t,_)=>[t]|none=>[]
theorem Wy{g:Option (Nat×Bool)}(h:∀t b,g=some (t,b)->ea env2 t=ea env t):mN env2 g=mN env g:=by
 cases g with
 |none=>rfl|some p =>
  simp only[mN];rcases rn (h p.1 p.2 rfl)with h|⟨cs,c,d,e⟩
  ·rw[h]
  ·rw[d,e]
def indep(a b:bq):Bool:=Ix (dQ a.o) (IF b++(dD b.o++dQ b.o))&&Ix (dQ b.o) (IF a++(dD a.o++dQ a.o))&&ye a.o b.o
theorem zW{b:Bool}{o:cW}(h:qq it b=some o):(∀t∈dQ o,t∈dQ it.o)/\(∀t∈dD o,t∈dD it.o)/\(o=it.o\/bH o=0):=by
 cases b with
 |true=>simp_all[qq]|false =>
  simp only[qq,aKN]at h;obtain⟨d,hd,rfl⟩:=h;refine⟨λt c=>?_,λt c=>by simp[dD,c0]at c,.inr rfl⟩;simp[dQ,jh,sm]at c;subst c;exact fD hd
variable {e:Option cW}
theorem EO(hk:∀o,e=some o->bH o≠9)(ax:s.env.et)(bA:sn P gl D s K e) :
  sn P gl D s (λs'=>K s'/\s'.env.et/\∀t,(∀o,e=some o->t∉dQ o)->ea s'.env t=ea s.env t) e/\∃s',K s'/\s'.env.et/\∀t,(∀o,e=some o->t∉dQ o)->ea s'.env t=ea s.env t:=by
 cases e with
 |none=>exact⟨⟨bA,ax,λ_ _=>rfl⟩,s,bA,ax,λ_ _=>rfl⟩|some o =>
  obtain⟨d,g,i,u,_,j⟩:=zR (K2:=λs'=>K s'/\s'.env.et/\∀t,(∀p,some o=some p->t∉dQ p)->ea s'.env t=ea s.env t) (hk o rfl) alike_refl ya
   (λg i m u _ k l h=>by rw[EM l k];exact⟨h,Wh ax,λt c=>EK u (c o rfl)⟩) bA
  exact⟨d,_,j,Wh ax,λt c=>EK u (c o rfl)⟩
theorem EV(h:sn P gl D s K e)(hk:∀s,K s->K' s):sn P gl D s K' e:=by
 cases e with
 |none=>exact hk _ h|some o=>exact Io h hk
theorem yf{b:Bool}(hk:bH it.o≠9):∀o,qq it b=some o->bH o≠9:=λo aE=>by
 rcases(zW aE).2.2 with rfl|c
 ·exact hk
 ·rw[c];decide
theorem WA(hk:bH it.o≠9)(ax:s.env.et)(h:nC P gl D s K it):nC P gl D s (λs'=>K s'/\s'.env.et) it:=by
 cases c:mN s.env it.g with
 |none=>simp only[nC,c]at h|some b =>
  rw[ET c]at h ⊢;exact EV (EO (yf hk) ax h).1 λs' d=>⟨d.1,d.2.1⟩
theorem aqy{a b:bq}(i:bH a.o≠9)(j:bH b.o≠9)(ax:s.env.et)(h:indep a b=true)(bA:nC P gl D s (λc=>nC P gl D c K b) a):nC P gl D s (λc=>nC P gl D c K a) b:=by
 simp only[indep,aKB]at h;obtain⟨⟨A,B⟩,ar⟩:=h;cases C:mN s.env a.g with
 |none=>simp_all[nC]|some uJ =>
  rw[ET C]at bA;obtain⟨p,J,L,T,q⟩:=EO (yf i) ax bA
  -- the guard of b
  have E:∀d:au,(∀t,(∀o,qq a uJ=some o->t∉dQ o)->ea d.env t=ea s.env t)->mN d.env b.g=mN s.env b.g:=λd O=>Wy λt m r=>O t λo aE u =>
   Iy A ((zW aE).1 t u) (by simp[IF,r])
  cases ae:mN s.env b.g with
  |none=>simp only[nC,(E J q).trans ae]at L|some m =>
   have g:sn P gl D s (λc=>sn P gl D c K (qq b m)) (qq a uJ):=EV p λd k=>(ET ((E d k.2.2).trans ae)).1 k.1;rw[ET ae]
   -- the exchange
   have v:sn P gl D s (λc=>sn P gl D c K (qq a uJ)) (qq b m):=by
    cases l:qq a uJ with
    |none=>rw[l]at g;exact g|some Q =>
     cases n:qq b m with
     |none=>rw[l,n]at g;exact g|some bM =>
      rw[l,n]at g;obtain⟨F,w,x⟩:=zW l;obtain⟨G,II,y⟩:=zW n;refine NT ax (λt z=>?_) (λt z=>?_) ?_ g
      ·have:=Iy A (F t z);simp only[List.mem_append,not_or]at this;exact⟨λh=>this.2.1 (II t h),λh=>this.2.2 (G t h)⟩
      ·have:=Iy B (G t z);simp only[List.mem_append,not_or]at this;exact⟨λh=>this.2.1 (w t h),λh=>this.2.2 (F t h)⟩
      ·have R:=yf i _ l;have V:=yf j _ n;rcases x with rfl|x
       ·rcases y with rfl|y
        ·exact ar
        ·have:wi bM a.o=true:=by simp only[wi,qo,y];simp;omega
         simp[ye,this]
       ·have:wi Q bM=true:=by simp only[wi,qo,x];simp;omega
        simp[ye,this]
   -- the guard of a
   refine EV (EO (yf j) ax v).1 λd k=>?_;have:mN d.env a.g=mN s.env a.g:=Wy λt S r=>k.2.2 t λo aE u=>Iy B ((zW aE).1 t u) (by simp[IF,r]);exact(ET (this.trans C)).2 k.1
end
inductive nD(md:Region.Mode)(ops:Array Oper):List Nat->List Nat->Prop
 |nil (done:List Nat):nD md ops done []|cons (done L:List Nat) (i:Nat) (o:Oper) (aE:ops[i]?=some o) (al:i∉done) (he:∀e∈o.after.toList,Region.binds md e=true->e.on∈done) (cf:nD md ops (i::done) L):nD md ops done (i::L)
variable {md:Region.Mode}{ops:Array Oper}{done L:List Nat}
theorem nD.lt(h:nD md ops done L):∀i∈L,i<ops.size:=by
 induction h with
 |nil=>simp|cons done L i o aE al he cf ih=>grind
theorem nD.nodup(h:nD md ops done L):L.Nodup/\∀i∈L,i∉done:=by
 induction h with
 |nil=>simp|cons done L i o aE al he cf ih=>grind
def qs(ops:Array Oper)(l:Array Bool)(done:List Nat):Prop:=l.size=ops.size/\∀i,l[i]?=some true↔i∈done
variable {l:Array Bool}
theorem qs.getD(h:qs ops l done)(i:Nat):l.getD i false=true↔i∈done:=by
 rw[<-h.2 i,aKI];cases l[i]? with
 |none=>simp|some b=>simp
variable {i:Nat}
theorem qs.set(h:qs ops l done)(al:i<ops.size):qs ops (l.setIfInBounds i true) (i::done):=by
 refine⟨by simp[h.1],λj=>?_⟩;rw[Array.getElem?_setIfInBounds];by_cases e:i=j
 ·subst e;simp[h.1,al]
 ·simp[e,h.2 j,Ne.symm e]
theorem N6(h:qs ops l done)(i:Nat):i∈Region.ready md ops l↔∃o,ops[i]?=some o/\i∉done/\∀e∈o.after.toList,Region.binds md e=true->e.on∈done:=by
 unfold Region.ready;simp only[List.mem_filter,aKP,aKB,Bool.not_eq_true'];constructor
 ·rintro⟨b,c,a⟩;refine⟨ops[i],by simp[b],?_,?_⟩
  ·intro hd;have:=(h.2 i).2 hd;rw[aKI,this]at c;simp at c
  ·intro e he ae;rw[show ops[i]?=some ops[i] by simp[b]]at a;simp only[Option.map_some,Option.getD_some]at a;rw[Array.all_eq_true_iff_forall_mem]at a;have:=a e (by simpa using he);rw[ae]at this;simp only[Bool.not_true,Bool.false_or]at this;exact(h.getD _).1 this
 ·rintro⟨o,b,c,a⟩;have al:=(aKQ.1 b).1;refine⟨al,?_,?_⟩
  ·rw[aKI];have d:i<l.size:=by rw[h.1];exact al
   have g:l[i]?≠some true:=λe=>c ((h.2 i).1 e);simp only[Array.getElem?_eq_getElem d,Option.some.injEq,ne_eq,Bool.not_eq_true]at g;simp[d,g]
  ·rw[b];simp only[Option.map_some,Option.getD_some];rw[Array.all_eq_true_iff_forall_mem];intro e he;cases ae:Region.binds md e with
   |false=>simp|true=>simp[(h.getD e.on).2 (a e (by simpa using he) ae)]
theorem go_eq{fuel t:Nat} :Region.linearise.go md ops (fuel+1) t l []=(match(Region.ready md ops l)[t % (Region.ready md ops l).length]? with
   |some i=>i::Region.linearise.go md ops fuel (t / (Region.ready md ops l).length) (l.setIfInBounds i true) []|none=>[]):=by
 simp only[Region.linearise.go];change (match(Region.ready md ops l)[t % (Region.ready md ops l).length]? with
   |some i=>Region.linearise.go md ops fuel (t / (Region.ready md ops l).length) (l.setIfInBounds i true) [i]|none=>[].reverse)=_
 split
 ·rename_i i al;rw[linearise_go_acc];simp
 ·simp
theorem go_topo :∀(fuel t:Nat)(l:Array Bool)(done:List Nat),qs ops l done->nD md ops done (Region.linearise.go md ops fuel t l [])
 |0,t,l,done,h=>by simp only[Region.linearise.go];exact .nil _|fuel+1,t,l,done,h=>by
  rw[go_eq];split
  ·rename_i i al;obtain⟨o,h1,ab,an⟩:=(N6 h i).1 (aKC al);exact .cons _ _ i o h1 ab an (go_topo fuel _ _ _ (h.set (aKQ.1 h1).1))
  ·exact .nil _
variable {W:List Nat}
theorem aqJ :∀{a:List Nat},nD md ops a W->∀{l:Array Bool}{done:List Nat},qs ops l done->(∀i∈a,i∈done)->(∃i∈W,i∉done)->Region.ready md ops l≠[]:=by
 intro a b;induction b with
 |nil=>intro l done _ _ ⟨i,al,_⟩;simp at al|cons a L i o aE al he cf ih =>
  intro l done h c d;by_cases hd:i∈done
  ·refine ih h (λj n=>?_) ?_
   ·grind
   ·grind
  ·intro g;have:i∈Region.ready md ops l:=(N6 h i).2 ⟨o,aE,hd,λe k m=>c _ (he e k m)⟩;rw[g]at this;simp at this
variable {n:Nat}
theorem aqK :∀{L:List Nat},L.Nodup->(∀i∈L,i<n)->L.length<=n:=by
 intro L a b;have:L ⊆ List.range n:=λi al=>aKP.2 (b i al);have h:=List.Nodup.length_le_of_subset a this;simpa using h
theorem aqL(b:L.Nodup)(c:∀i∈L,i<n)(e:L.length=n):∀i,i<n->i∈L:=by
 intro i al;by_cases h:i∈L
 ·exact h
 ·have:(i::L).Nodup:=List.nodup_cons.2 ⟨h,b⟩;have d:=aqK this (n:=n) (by
   intro j a;rcases aKD.1 a with rfl|a
   ·exact al
   ·exact c j a)
  simp at d;omega
theorem go_len(eY:nD md ops [] W)(aqM:W.length=ops.size):∀(fuel t:Nat)(l:Array Bool)(done:List Nat),qs ops l done->done.Nodup->(∀i∈done,i<ops.size)->fuel+done.length=ops.size->(Region.linearise.go md ops fuel t l []).length=fuel
 |0,t,l,done,h,_,_,_=>by simp[Region.linearise.go]|fuel+1,t,l,done,h,aI,hd,aW=>by
  have cG:Region.ready md ops l≠[]:=by
   refine aqJ eY h be ?_;by_cases hex:∃i∈W,i∉done
   ·exact hex
   ·have:W ⊆ done:=λi al=>by
     by_cases h:i∈done
     ·exact h
     ·exact absurd ⟨i,al,h⟩ hex
    have:=List.Nodup.length_le_of_subset eY.nodup.1 this;omega
  rw[go_eq];split
  ·rename_i i al;obtain⟨o,h1,ab,an⟩:=(N6 h i).1 (aKC al);have n2:=(aKQ.1 h1).1;rw[aKH,go_len eY aqM fuel _ _ (i::done) (h.set n2) (List.nodup_cons.2 ⟨ab,aI⟩) (by
    intro j a8;rcases aKD.1 a8 with rfl|a8
    ·exact n2
    ·exact hd j a8) d9]
  ·rename_i al;have ar:0<(Region.ready md ops l).length:=List.length_pos_iff.2 cG;have:=List.getElem?_eq_none_iff.1 al;have hm:=Nat.mod_lt t ar;omega
def zL(md:Region.Mode):List Oper->Nat->Bool
 |[],_=>true|o::os,i=>(o.after.toList.all λe=>!Region.binds md e||e.on<i)&&zL md os (i+1)
def B8(md:Region.Mode)(ops:Array Oper):Bool:=zL md ops.toList 0||(Region.linearise md ops 0).length==ops.size
theorem N2 :∀(os:List Oper)(i:Nat)(done:List Nat),(∀k o,os[k]?=some o->ops[i+k]?=some o)->(∀j,j∈done↔j<i)->zL md os i=true->nD md ops done ((List.range os.length).map (i+·))
 |[],i,done,_,_,_=>by simp;exact .nil _|o::os,i,done,h,hd,ae=>by
  simp only[zL,aKB,aKO,aKL,Bool.not_eq_true',decide_eq_true_eq]at ae;rw[aKH,List.range_succ_eq_map,aKJ,List.map_map];refine .cons _ _ (i+0) o (h 0 o be) (by simp[hd]) (λe he b=>?_) ?_
  ·grind
  ·have:=N2 os (i+1) (i::done) (λk a hk=>by
    have:=h (k+1) a (by simpa using hk);rw[show i+1+k=i+(k+1) by omega];exact this) (λj=>by simp[hd];omega) ae.2
   have e:((λx=>i+x)∘Nat.succ)=λx=>i+1+x:=by funext x;simp;omega
   rw[e];exact this
theorem qs.init(ops:Array Oper):qs ops (Array.replicate ops.size false) []:=⟨be,λi=>by
 rw[Array.getElem?_replicate];split<;>simp⟩
theorem aqN(h:B8 md ops=true)(t:Nat):nD md ops [] (Region.linearise md ops t)/\(Region.linearise md ops t).length=ops.size:=by
 refine⟨go_topo _ _ _ _ (qs.init ops),?_⟩;simp only[B8,aKL,beq_iff_eq]at h;have:∃W,nD md ops [] W/\W.length=ops.size:=by
  rcases h with h|h
  ·exact⟨_,N2 ops.toList 0 [] (λk o hk=>by simpa using hk) be h,be⟩
  ·exact⟨_,go_topo _ _ _ _ (qs.init ops),h⟩
 obtain⟨W,h1,ab⟩:=this;exact go_len h1 ab _ _ _ [] (qs.init ops) be be be
theorem aqO{e:Edge}(h:Region.binds .any e=true):Region.binds md e=true:=by
 unfold Region.binds at h ⊢;split at h<;>simp_all
theorem nD.any(h:nD md ops done L):nD .any ops done L:=by
 induction h with
 |nil=>exact .nil _|cons done L i o aE al he cf ih=>exact .cons _ _ i o aE al (λe a b=>he e a (aqO b)) ih
theorem aqP{S:Nat->Prop}(ds:∀j o,S j->ops[j]?=some o->∀e∈o.after.toList,Region.binds .any e=true->S e.on){j:Nat}(a:S j)(ae:((CheckFast.beforeF ops).getD j 0).testBit i=true):S i:=by
 have key:∀(l:List Oper)(A:Array Nat),(∀k o,l[k]?=some o->ops[A.size+k]?=some o)->(∀j i,S j->(A.getD j 0).testBit i=true->S i) ->
   ∀j i,S j->((l.foldl (λacc o=>acc.push (CheckFast.one (λi=>acc.getD i 0) o)) A).getD j 0).testBit i=true->S i:=by
  intro l;induction l with
  |nil=>intro A _ h;exact h|cons o l ih =>
   intro A g cE;simp only[List.foldl_cons];refine ih _ (λk p hk=>?_) ?_
   ·have:=g (k+1) p (by simpa using hk);rw[Array.size_push,show A.size+1+k=A.size+(k+1) by omega];exact this
   ·intro j i a ae;rw[aKI,Array.getElem?_push]at ae;split at ae
    ·rename_i e;subst e;have aE:=g 0 o be;simp only[Option.getD_some]at ae;have b:∀e∈o.after.toList,Region.binds .any e=true->S e.on:=ds _ o a (by simpa using aE);unfold CheckFast.one at ae;rw[<-Array.foldl_toList]at ae;have c:∀(es:List Edge)(z:Nat),(∀e∈es,Region.binds .any e=true->S e.on)->(z.testBit i=true->S i) ->
       (es.foldl (λs e=>if Region.binds .any e=true then s||| 2 ^ e.on||| A.getD e.on 0 else s) z).testBit i=true->S i:=by
      intro es;induction es with
      |nil=>intro z _ d h;exact d h|cons e es q =>
       intro z b d;simp only[List.foldl_cons];refine q _ (λr t=>b r (by simp[t])) ?_;intro m;split at m
       ·grind
       ·exact d m
     exact c _ 0 b be ae
    ·exact cE j i a (by rw[aKI];exact ae)
 rw[CheckFast.beforeF_eq]at ae;unfold Region.before at ae;rw[<-Array.foldl_toList]at ae;exact key ops.toList #[] (λk o hk=>by simpa using hk) be j i a ae
section
variable {P:Program}{gl:cQ}{D:bj}
variable {K:au->Prop}
theorem WE{b:bq}{e:List bq}(ae:bH b.o≠9):∀(c:List bq),(∀a∈c,bH a.o≠9/\indep a b=true)->∀{s:au},s.env.et->kx P gl D (c++b::e) s K->kx P gl D (b::(c++e)) s K
 |[],_,s,_,h=>h|a::c,h,s,ax,j=>by
  obtain⟨k,m⟩:=h a be;rw[List.cons_append,ES]at j;have o:=IE (K':=λg=>kx P gl D (b::(c++e)) g K) (λg d=>WE ae c (λa aG=>h a (by simp[aG])) d.2 d.1) (WA k ax j);have p:nC P gl D s (λq=>nC P gl D q (λr=>kx P gl D (c++e) r K) b) a:=IE (λg d=>ES.1 d) o;have:=aqy k ae ax m p;rw[List.cons_append];exact ES.2 (IE (λg d=>ES.2 d) this)
def WG(ops:Array Oper)(dp:List bq):Prop:=∀i j a b,i<j->dp[i]?=some a->dp[j]?=some b->indep a b=true\/((CheckFast.beforeF ops).getD j 0).testBit i=true
variable {dp:List bq}
theorem aqQ(J:dp.length=ops.size)(hk:∀it∈dp,bH it.o≠9)(ar:WG ops dp) :
  ∀{done L:List Nat},nD .any ops done L->∀{T:List Nat}{s:au},T.Pairwise (·<·)->(∀x,x∈T↔x∈L)->(∀j∈done,∀o,ops[j]?=some o->∀e∈o.after.toList,Region.binds .any e=true->e.on∈done)->s.env.et ->
   kx P gl D (T.filterMap (dp[·]?)) s K->kx P gl D (L.filterMap (dp[·]?)) s K:=by
 intro done L cf;induction cf with
 |nil =>
  intro T s ej hm _ _ d;have:T=[]:=by
   cases T with
   |nil=>rfl|cons x T=>have:=(hm x).1 be;simp at this
  subst this;exact d
 |cons done L i o aE al he cf ih =>
  intro T s ej hm hd ax d;have k:i∈T:=(hm i).2 be;obtain⟨q,w,rfl⟩:=List.append_of_mem k;have O:=(aKQ.1 aE).1;have c:dp[i]?=some (dp[i]' am):=by simp
  generalize dp[i]' am =b at c;rw[List.pairwise_append,List.pairwise_cons]at ej;obtain⟨Q,⟨y,z⟩,m⟩:=ej;have A:=(nD.cons done L i o aE al he cf).nodup;rw[List.filterMap_append,aKK,c]at d;simp only at d;have r:=WE (P:=P) (gl:=gl) (D:=D) (hk b (aKC c)) (q.filterMap (dp[·]?)) (by
   intro a aG;rw[List.mem_filterMap]at aG;obtain⟨t,u,v⟩:=aG;refine⟨hk a (aKC v),?_⟩;have B:=m t u i be;rcases ar t i a b B v c with h|h
   ·exact h
   ·have:t∈i::done:=aqP (S:=λj=>j∈i::done) (λj C p E e F ae=>by
     rcases aKD.1 p with rfl|p
     ·grind
     ·exact aKD.2 (.inr (hd j p C E e F ae))) be h
    rcases aKD.1 this with e|h
    ·omega
    ·have:t∈i::L:=(hm t).1 (by simp[u]);exact absurd h (A.2 t this)) ax d
  rw[aKK,c];simp only;rw[ES]at r ⊢;refine IE (λR g=>?_) (WA (hk b (aKC c)) ax r);obtain⟨g,G⟩:=g;rw[<-List.filterMap_append]at g;refine ih (T:=q++w) ?_ ?_ ?_ G g
  ·grind
  ·grind
  ·grind
def N1(b:List Nat)(rest:List bq):Nat->List bq->Bool
 |_,[]=>true|i,a::dp=>(match rest with|[]=>true|_::r=>(List.zip b r).all (λp=>p.1.testBit i||indep a p.2)&&N1 b.tail r (i+1) dp)
def IS(ops:Array Oper)(dp:List bq):Bool:=B8 .any ops&&B8 .text ops&&B8 .gc ops&&dp.all (λit=>bH it.o != 9)&&N1 (CheckFast.beforeF ops).toList.tail dp 0 dp
theorem N3{B:List Nat}(fN:B.length=dp.length):∀(k:Nat)(l:List bq),l=dp.drop k->N1 (B.drop (k+1)) l k l=true->∀i j a b,k<=i->i<j->dp[i]?=some a->dp[j]?=some b->(B.getD j 0).testBit i=true\/indep a b=true:=by
 intro k l;induction l generalizing k with
 |nil =>
  intro c _ i j a b m g aG ae;have:dp.length<=k:=by simp_all
  have:=(List.getElem?_eq_some_iff.1 aG).1;omega
 |cons x l ih =>
  intro c d i j a b m g aG ae;simp only[N1,aKB,aKO]at d;have h:l=dp.drop (k+1):=by
   have:=congrArg List.tail c;simpa[List.tail_drop]using this
  by_cases e:k=i
  ·subst e;have ah:x=a:=by
    have:(dp.drop k)[0]?=some x:=by rw[<-c];rfl
    rw[List.getElem?_drop,Nat.add_zero,aG]at this;exact(Option.some.inj this).symm
   subst ah;have o:j<B.length:=by grind
   have hm:(B.getD j 0,b)∈List.zip (B.drop (k+1)) l:=by
    refine aKC (i:=j-(k+1)) ?_;rw[List.getElem?_zip_eq_some];rw[h,List.getElem?_drop,List.getElem?_drop,show k+1+(j-(k+1))=j by omega];refine⟨?_,ae⟩;rw[List.getD_eq_getElem?_getD,List.getElem?_eq_getElem o];rfl
   have:=d.1 _ hm;simpa[aKL]using this
  ·refine ih (k+1) h ?_ i j a b am g aG ae;have:=d.2;rwa[List.tail_drop]at this
theorem aqW(e:dp.length=ops.size)(h:IS ops dp=true):(∀md,B8 md ops=true)/\(∀it∈dp,bH it.o≠9)/\WG ops dp:=by
 simp only[IS,aKB,aKO,bne_iff_ne]at h;obtain⟨⟨⟨⟨m,p⟩,q⟩,g⟩,d⟩:=h;refine⟨λmd=>by cases md<;>assumption,g,?_⟩;intro i j a b k aG ae;have c:(CheckFast.beforeF ops).toList.length=dp.length:=by
  rw[CheckFast.beforeF_eq];unfold Region.before;rw[e,<-Array.foldl_toList];have:∀(l:List Oper)(A:Array Nat)(f:Array Nat->Oper->Nat),(l.foldl (λacc o=>acc.push (f acc o)) A).size=A.size+l.length:=by
   intro l;induction l with
   |nil=>intro A f;simp|cons o l ih=>intro A f;simp only[List.foldl_cons];rw[ih];simp;omega
  simpa using this ops.toList #[] _
 have fN:(CheckFast.beforeF ops).toList.tail=(CheckFast.beforeF ops).toList.drop (0+1):=by simp
 rw[fN]at d;rcases N3 c 0 dp be d i j a b am k aG ae with h|h
 ·right;rwa[aKI,<-aKM,<-List.getD_eq_getElem?_getD]
 ·exact .inl h
theorem aqX{m:Bool}{s:au}(a:dp.length=ops.size)(hd:IS ops dp=true)(ax:s.env.et)(t:Nat)(c:kx P gl D dp s K) :
  kx P gl D ((Region.schedule m ops t).filterMap (dp[·]?)) s K:=by
 obtain⟨g,d,e⟩:=aqW a hd;have key:∀md t,kx P gl D ((Region.linearise md ops t).filterMap (dp[·]?)) s K:=by
  intro md t;obtain⟨b,h⟩:=aqN (g md) t;have j:kx P gl D ((List.range ops.size).filterMap (dp[·]?)) s K:=by
   have:(List.range ops.size).filterMap (dp[·]?)=dp:=by
    rw[<-a];clear c a hd d e;induction dp with
    |nil=>rfl|cons x xs ih =>
     rw[aKH,List.range_succ_eq_map,aKK];simp only[aKR,List.filterMap_map];congr 1
   rw[this];exact c
  exact aqQ a d e b.any List.pairwise_lt_range (λx=>⟨λah=>aqL b.nodup.1 b.lt h x (aKP.1 ah),λah=>aKP.2 (b.lt x ah)⟩) be ax j
 unfold Region.schedule;split<;>exact key _ _
end
section
variable (P:Program)(N:Nat)
def ic:Code->az->Bool
 |c,.Ht _ s=>ic c s|c,.drop _ s=>ic c s|c,.kill _ s=>ic c s|c,.q6 _ e sz s=>ko P e sz&&ic c s|c,.ta _ _ e sz s=>ko P e sz&&ic c s|.skip,.skip=>true|.region _ ops draw,.aa dp _=>BY P N ops ops.toList dp&&(!draw||IS ops dp)|.seq a b,.seq cN b5=>ic a cN&&ic b b5|.cond c a b,.cond iP cN b5=>dJ c iP&&ic a cN&&ic b b5|.block i c,.block oQ iP=>i==oQ&&ic c iP|.loop c,.loop iP=>ic c iP|.exit i,.exit j=>i==j|.ret,.ret=>true|_,.bad=>true|_,_=>false
end
section
variable {P:Program}{gl:cQ}{D:bj}{N:Nat}{g g':bD}{s s':au}{a:Act}{w w':World}{o:Oper}
def IT:k7->Exit
 |.normal=>.normal|.exit i=>.exit i|.ret=>.ret
def IU(P:Program)(gl:cQ)(N:Nat)(g:bD)(w:World)(Q:k7->au->Prop)(e:Exit)(cN:Act)(w':World):Prop :=
 ∃ex s' g',e=IT ex/\Q ex s'/\eL g w g' w'/\Rel P gl N g' s' cN w'
theorem WH :∀(b t:Nat)(l:Array Bool)(acc:List Nat),(∀i∈acc,i<ops.size)->∀i∈Region.linearise.go md ops b t l acc,i<ops.size
 |0,_,_,acc,h,i,al=>h i (by simpa[Region.linearise.go]using al)|b+1,t,l,acc,h,i,al=>by
  simp only[Region.linearise.go]at al;split at al
  ·rename_i j c;refine WH b _ _ (j::acc) (λk hk=>?_) i al;rcases aKD.1 hk with rfl|hk
   ·grind
   ·exact h k hk
  ·exact h i (by simpa using al)
theorem aqY{m:Bool}{t:Nat}:∀i∈Region.schedule m ops t,i<ops.size:=by
 intro i al;unfold Region.schedule at al;split at al<;>exact WH _ _ _ [] be i al
variable {v:Value}
theorem bn.aqZ{own:Option Nat}{sz:Nat}(h:bn g (.list own sz xs) v):xs.length<=M:=by
 have ar:∀{v},dr g.γ (.list none sz xs) v->xs.length<=M:=λh=>by
  cases h with
  |kn=>simp|list _ _ _ _ _ h=>exact h
 cases h with
 |pure _ _ h=>cases own with
  |none=>exact ar h|some e=>cases h
 |own _ _ _ _ h=>exact ar h
theorem bn.IV{l:List UInt8}(h:bn g (.str l) v):l.length<=M:=by
 cases h with
 |pure _ _ h=>cases h with
  |str _ h=>exact h
theorem Rel.kill(h:Rel P gl N g s a w)(t:Nat):Rel P gl N g (BV s t) a w:=by
 unfold BV;split
 ·exact h.dead _
 ·exact h.dead _
 ·exact h
theorem aq0:∀(hh:az)(c:Code),ic P N c hh=true->∀(Q:k7->au->Prop)(s:au)(g:bD)(a:Act)(w:World),Rel P gl N g s a w->exec P gl D hh s Q->c.wp P (IU P gl N g w Q) a w:=by
 intro hh;induction hh with
 |skip =>
  intro c m Q s g a w h ah;cases c<;>simp[ic]at m;exact wp_skip ⟨.normal,s,g,rfl,ah,.refl _ _,h⟩
 |ret =>
  intro c m Q s g a w h ah;cases c<;>simp[ic]at m;exact wp_ret ⟨.ret,s,g,rfl,ah,.refl _ _,h⟩
 |exit i =>
  intro c m Q s g a w h ah;cases c<;>simp[ic]at m;subst m;exact wp_exit ⟨.exit _,s,g,rfl,ah,.refl _ _,h⟩
 |Ht t hh ih =>
  intro c m Q s g a w h ah;have A:ic P N c hh=true:=by cases c<;>simpa[ic]using m
  simp only[exec]at ah;split at ah
  ·rename_i own sz xs J;obtain⟨v,_,r,_⟩:=h.env _ _ J;exact ih c A Q s g a w h (ah r.aqZ)
  ·rename_i l J;obtain⟨v,_,r,_⟩:=h.env _ _ J;exact ih c A Q s g a w h (ah r.IV)
  ·exact ah.elim
 |drop bE hh ih =>
  intro c m Q s g a w h ah;have A:ic P N c hh=true:=by cases c<;>simpa[ic]using m
  exact ih c A Q _ g a w (h.close bE) ah
 |kill t hh ih =>
  intro c m Q s g a w h ah;have A:ic P N c hh=true:=by cases c<;>simpa[ic]using m
  exact ih c A Q _ g a w (h.kill t) ah
 |q6 t e sz hh ih =>
  intro c m Q s g a w h ah;have A:ko P e sz=true/\ic P N c hh=true:=by cases c<;>simpa[ic]using m
  simp only[exec]at ah;split at ah
  ·rename_i B Y;obtain⟨q,Z,av⟩:=h.q6 A.1 Y;refine wp_mono (ih c A.2 Q B q a w av ah) ?_;rintro e E ba ⟨ex,G,F,rfl,p,d,r⟩;exact⟨ex,G,F,rfl,p,Z.trans d,r⟩
  ·exact ah.elim
 |ta t off e sz hh ih =>
  intro c m Q s g a w h ah;have A:ko P e sz=true/\ic P N c hh=true:=by cases c<;>simpa[ic]using m
  simp only[exec]at ah;split at ah
  ·rename_i B Y;obtain⟨q,Z,av⟩:=h.ta A.1 Y;refine wp_mono (ih c A.2 Q B q a w av ah) ?_;rintro e E ba ⟨ex,G,F,rfl,p,d,r⟩;exact⟨ex,G,F,rfl,p,Z.trans d,r⟩
  ·exact ah.elim
 |bad=>intro c m Q s g a w h ah;exact ah.elim|aa dp x7 =>
  intro c m Q s g a w h ah;cases c<;>simp only[ic,aKG]at m;rename_i id ops O;simp only[aKB]at m;obtain⟨aC,hZ⟩:=VU m.1;simp only[Array.length_toList]at aC;have WI:∀i,i<ops.size->∃o it,ops[i]?=some o/\dp[i]?=some it/\EF P N ops o it=true:=λi al=>by
   refine⟨ops[i],dp[i]' am,by simp[al],be,hZ i _ _ (by simp[al]) be⟩
  have x9:∀s' g' u w',(λs':au=>Q .normal { s' with env:=s'.env.close x7 }) s'->eL g w g' w'->Rel P gl N g' s' u w'->IU P gl N g w Q .normal u w' :=
   λs' g' u w' hk d aw=>⟨.normal,_,g',rfl,hk,d,aw.close x7⟩
  cases O with
  |false =>
   refine wp_region (VT (D:=D) x9 _ (λi al=>WI i (by simpa using al)) s g a w h (.refl _ _) ?_);rw[aC,apG];exact ah
  |true =>
   simp only[Bool.not_true,Bool.false_or]at m;refine wp_region_draw λt=>?_;have aq1:∀s' g' u w',(λs':au=>Q .normal { s' with env:=s'.env.close x7 }) s'->eL g { w with drawn:=w.drawn+1 } g' w'->Rel P gl N g' s' u w'->IU P gl N g w Q .normal u w' :=
    λs' g' u w' hk d aw=>x9 s' g' u w' hk ⟨⟨d.γ,d.cg⟩,d.outer,d.size,d.os,d.out⟩ aw
   exact VT (D:=D) aq1 _ (λi al=>WI i (aqY i al)) s g a _ h.drawn (.refl _ _) (aqX aC.symm m.2 h.sorted t ah)
 |seq x y aq2 N8 =>
  intro c m Q s g a w h ah;cases c<;>simp only[ic,aKG]at m;simp only[aKB]at m;refine wp_seq (wp_mono (aq2 _ m.1 _ s g a w h ah) ?_);rintro e E ba ⟨ex,B,q,rfl,p,d,C⟩;cases ex with
  |normal =>
   refine wp_mono (N8 _ m.2 Q B q E ba C p) ?_;rintro e T V ⟨ex,G,F,rfl,uN,R,r⟩;exact⟨ex,G,F,rfl,uN,d.trans R,r⟩
  |exit i=>exact⟨.exit i,B,q,rfl,p,d,C⟩|ret=>exact⟨.ret,B,q,rfl,p,d,C⟩
 |cond x y z N8 aq3 =>
  intro c m Q s g a w h ah;cases c<;>simp only[ic,aKG]at m;simp only[aKB]at m;simp only[exec]at ah;split at ah
  ·rename_i t J;have aq:=dk h m.1.1 J;refine wp_cond aq.oO ?_;cases t with
   |true=>exact N8 _ m.1.2 Q s g a w h ah|false=>exact aq3 _ m.2 Q s g a w h ah
  ·exact ah.elim
 |block i x ih =>
  intro c m Q s g a w h ah;cases c<;>simp only[ic,aKG]at m;simp only[aKB,beq_iff_eq]at m;obtain⟨rfl,m⟩:=m;refine wp_block (wp_mono (ih _ m _ s g a w h ah) ?_);rintro e E ba ⟨ex,B,q,rfl,p,d,C⟩;cases ex with
  |normal=>exact⟨.normal,B,q,rfl,p,d,C⟩|exit j =>
   simp only[IT,Exit.inBlock];simp only at p;split<;>rename_i a8
   ·rw[if_pos a8]at p;exact⟨.normal,B,q,rfl,p,d,C⟩
   ·rw[if_neg a8]at p;exact⟨.exit j,B,q,rfl,p,d,C⟩
  |ret=>exact⟨.ret,B,q,rfl,p,d,C⟩
 |loop x ih =>
  intro c m Q s g a w h ah;cases c<;>simp only[ic,aKG]at m;rename_i c;intro b k cs;let X:au->Prop:=λs=>∀q E ba,Rel P gl N q s E ba->eL g w q ba ->
   ∃e u w',IU P gl N g w Q e u w'/\Arrives P (lone (b.at E (.code c::.inLoop c::k)) cs ba) b k cs e u w'
  have key:X s:=by
   refine ah X λs db q E ba C d=>?_;obtain⟨e,T,V,⟨ex,G,F,rfl,p,R,r⟩,S⟩:=ih c m _ s q E ba C db b (.inLoop c::k) cs;cases ex with
   |normal =>
    obtain⟨fe,a3,fu,aq4,aq5⟩:=p F T V r (d.trans R);exact⟨fe,a3,fu,aq4,.of_steps (Steps.trans S (.one step_inLoop)) aq5⟩
   |exit i=>exact⟨_,T,V,⟨.exit i,G,F,rfl,p,d.trans R,r⟩,.pass (x:=.inLoop c) rfl (λ_ _=>.inl (by simp[IT])) S⟩|ret=>exact⟨_,T,V,⟨.ret,G,F,rfl,p,d.trans R,r⟩,.pass (x:=.inLoop c) rfl (λ_ _=>.inl (by simp[IT])) S⟩
  obtain⟨e,u,w',p,S⟩:=key g a w h (.refl _ _);exact⟨e,u,w',p,.of_steps (.one step_loop) S⟩
end
end AM
