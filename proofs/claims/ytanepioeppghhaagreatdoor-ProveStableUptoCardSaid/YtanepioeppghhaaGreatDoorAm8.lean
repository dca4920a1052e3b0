/- An abstract machine, and what of the given program it does, part 9. Conditions: none. -/
import Derived.Test.YtanepioeppghhaaGreatDoorAm7
import Derived.Lib.Builder
set_option linter.unusedVariables false
namespace AM
open Bool renaming and_eq_true -> aKg
open Option renaming bind_some -> aKh,map_some -> aKk
open List renaming replicate -> aKi,mem_append -> aKj,mem_of_getElem? -> aKl
open Nat renaming lt_trichotomy -> aKm
open Array renaming getElem?_toList -> aKn
open Go
section
variable {P:Program}{gl:cp}{N:Nat}{g g':bo}{s s':an}{a:Act}{w w':World}{o:Oper}
def Lp(P:Program)(N:Nat)(o:Oper)(d e:Nat)(z:List AV):Bool:=cB N o d&&(match o.op with|.alloc b3=>b3==e&&yh P e z&&jE P e z.length|_=>false)
variable {d e:Nat}
theorem aj6{z:List AV}(h:Rel P gl N g s a w)(j:Lp P N o d e z=true)(he:aH gl s (.uw d e z)=some s'):dR P gl N o g a w s':=by
 simp only[Lp,aKg]at j;obtain⟨hd,b⟩:=j;split at b
 ·rename_i n aA;simp only[aKg,beq_iff_eq]at b;obtain⟨⟨rfl,p⟩,k⟩:=b;obtain⟨i,v,c,f,q,r,t⟩:=Ah (g:=g) p;obtain⟨C,u,l,D,E,m,x,F⟩:=qm k;rw[l]at c;simp at c;subst c;rw[m]at f;simp at f;subst f;simp only[aH]at he;simp only[cB,aKg,beq_iff_eq,decide_eq_true_eq]at hd;obtain⟨g',y,A,B,_⟩:=h.KF k q r t (by rw[Array.length_toList,x];exact Nat.le_mul_of_pos_left _ (by decide));refine⟨ptrTo w.heap.size 0,w.alloc (.cells u.cells n),g',.inl ?_,by simpa using y,?_⟩
  ·simp only[execOp,aA,Sem.run_bind,FY l m,Result.andThen_ok,Sem.run_pure]
  ·rw[hd.1];have:=A.put he hd.2 (.ptr _ 0 _ B) (uL _ _).gb;simpa[ptrTo]using this
 ·cases b
theorem aj7{P:Program}{c:Nat}(b:P.cellsOf e≠0)(f:1<=c):liesAt P P.depth e c 0 e 1=true:=by
 have hd:P.depth=(2*(P.types.size+Made.depth)+1)+1:=rfl;rw[hd];unfold liesAt;have az:sameLayout P P.depth e e=true:=by
  rw[hd];unfold sameLayout;simp
 have:rowAt P (fun t=>sameLayout P P.depth t e) P.depth e c 0 1=true:=by
  conv=>lhs;rw[show P.depth=(2*(P.types.size+Made.depth)+1)+1 from rfl]
  unfold rowAt;rw[<-hd];simp[b,az,f]
 rw[this];rfl
def Lq(P:Program)(N:Nat)(o:Oper)(d:Nat)(x:aI)(e sz:Nat):Bool:=cB N o d&&jE P e sz&&(match o.op with
 |.convert Aa Ab bx=>ds bx x&&(match P.underlying Aa,P.underlying Ab with|some (.pointer u),some .unsafePointer=>u==e|some .unsafePointer,some (.pointer u)=>u==e|_,_=>false)|_=>false)
theorem aj8{sz:Nat}{x:aI}(h:Rel P gl N g s a w)(q:Lq P N o d x e sz=true)(he:aH gl s (.q4 d x e sz)=some s'):dR P gl N o g a w s':=by
 simp only[Lq,aKg]at q;obtain⟨⟨hd,E⟩,f⟩:=q;obtain⟨i,z,j,F,G,W,X,Y⟩:=qm E;simp only[aH]at he;split at he
 ·rename_i id ah;split at he
  ·rename_i r cs H;split at he
   ·rename_i J;obtain⟨rfl,Z⟩:=J;obtain⟨b,k,t,au,K,⟨arr,y,er⟩,_⟩:=h.heap _ _ H;have A:cs.length<=arr.size:=by
     obtain⟨B,ty,l,L,_⟩:=K;rw[y]at l;simp at l;rw[l.1];exact L
    have C:w.shape? b=some (r,arr.size):=by simp[World.shape?,y]
    split at f
    ·rename_i O Q D aA;simp only[aKg]at f;obtain⟨R,c⟩:=f;have m:=c9 h R ah;have S:a.eval D=ptrTo b 0:=by
      revert m;generalize a.eval D=v;intro m;cases m with
      |pure _ _ ao=>cases ao|ptr _ _ bU n=>rw[t]at n;simp at n;subst n;rfl
     have T:P.cellsOf r=sz:=by simp[Program.cellsOf,j,F]
     have V:(convert O Q (.pointer (some ⟨b,0,none⟩))).run P w=.ok (.pointer (some ⟨b,0,none⟩)) w:=by
      split at c
      ·rename_i u p U;simp at c;subst c;exact Lib.run_to_unsafe w ⟨b,0,none⟩ p U j (by omega) C (by show 0<arr.size;omega)
      ·rename_i u p U;simp at c;subst c;refine Lib.run_from_unsafe w ⟨b,0,none⟩ p U j C (aj7 (by omega) ?_);rw[T];exact(Nat.one_le_div_iff G).2 (by omega)
      ·cases c
     refine .value h hd he (v:=ptrTo b 0) ?_ (.ptr _ 0 _ t) (fun _ _ _ h=>by simp at h);simp only[execOp,aA,Sem.run_bind,S,ptrTo,V,Result.andThen_ok,Sem.run_pure]
    ·cases f
   ·cases he
  ·cases he
 ·cases he
end
section
variable {P:Program}{gl:cp}{N:Nat}{g g':bo}{s s':an}{a:Act}{w w':World}{o:Oper}
def Lr(P:Program)(o:Oper)(e:Nat)(z:List AV)(x:aI):Bool:=o.dst==none &&
 (match si o.op with|some (.clear,[bx],[t])=>ds bx x&&yj P t e z.length&&yh P e z|_=>false)
variable {t ty e:TypeId}{cap:Nat}
theorem aj9{base:Option Addr}(b:P.underlying t=some (.slice e)):(Builtin.clear_ #[t] ty #[.slice base 0 cap]).run P w=.ok (.tuple #[]) w:=by
 unfold Builtin.clear_;simp only[List.getElem?_toArray,List.getElem?_cons_zero,Sem.run_bind,run_underlying b,Result.andThen_ok];cases base<;>simp[Sem.run_pure]
variable {n:Nat}
theorem aka{i:TypeInfo}{c:Value}{b off:Nat}(d:P.underlying t=some (.slice e))(ak:P.info? e=some i)(f:i.zero=some c)(j:n≠0)
  (h:(storeCells ⟨b,off,none⟩ (Builtin.zeroCells c.cells n).toList).run P w=.ok () w'):(Builtin.clear_ #[t] ty #[.slice (some ⟨b,off,none⟩) n cap]).run P w=.ok (.tuple #[]) w':=by
 obtain⟨n,rfl⟩:∃m,n=m+1:=⟨n-1,by omega⟩;unfold Builtin.clear_;simp only[List.getElem?_toArray,List.getElem?_cons_zero,Sem.run_bind,run_underlying d,Result.andThen_ok];simp only[zeroValue,typeInfo,run_program,ak,f,Sem.run_bind,Result.andThen_ok,Sem.run_pure,h]
variable {x:aI}
theorem akb{e:Nat}{z:List AV}(h:Rel P gl N g s a w)(d:Lr P o e z x=true)(he:aH gl s (.sb e z x)=some s'):dR P gl N o g a w s':=by
 simp only[Lr,aKg,beq_iff_eq]at d;obtain⟨hd,y⟩:=d;split at y
 ·rename_i U t aA;simp only[aKg]at y;obtain⟨⟨ah,hk⟩,A⟩:=y;obtain⟨f,V⟩:=CG hk;obtain⟨i,m,G,bY,B,H,C,hQ⟩:=qm V;obtain⟨nX,v,D,E,W,X,Y⟩:=Ah (g:=g) A;rw[G]at D;simp at D;subst D;rw[H]at E;simp at E;subst E;obtain⟨wD,J⟩:=uH (o:=o) aA rfl a.eval;have K:∀v,a.put o.dst v=a:=fun v=>by rw[hd];rfl
  have L:∀{base cap},a.eval U=.slice base 0 cap->dR P gl N o g a w s:=fun{base cap}F=>by
   refine⟨.tuple #[],w,g,.inl ?_,ef.refl _ _,by rw[K];exact h⟩;rw[J];simp only[builtin,List.map_cons,List.map_nil,F,Sem.run_bind,aj9 f,Result.andThen_ok,Sem.run_pure]
  simp only[aH]at he;split at he
  ·rename_i id off n sz r;obtain⟨b,k,cap,Z,au,aS,bI,er⟩:=(c9 h ah r).sj;split at he
   ·rename_i aL;obtain⟨KB,AD⟩:=aL;have O:(Builtin.zeroCells m.cells n).toList.length=n*z.length:=by simp[Builtin.zeroCells,C]
    have lq:(aKi n z).flatten.length=n*z.length:=by simp
    have Q:∀j,j<n*z.length->(Builtin.zeroCells m.cells n).toList[j]?=m.cells[j % z.length]?/\(aKi n z).flatten[j]?=z[j % z.length]?:=fun j q=>by
     refine⟨?_,KG z B _ _ q⟩;have bw:j % z.length<m.cells.size:=by rw[C];exact Nat.mod_lt _ B
     rw[aKn];simp only[Builtin.zeroCells];rw[Array.getElem?_map,Array.getElem?_range];simp[C,q,Nat.mod_lt _ B]
    have hF:cr g (aKi n z).flatten (Builtin.zeroCells m.cells n).toList:=by
     refine .FR (by rw[O,lq]) fun j c u d f=>?_;have q:j<n*z.length:=by grind
     obtain⟨m1,m2⟩:=Q j q;rw[m2]at d;rw[m1]at f;obtain⟨kq,cv,eR⟩:=W.get.2 _ _ d;rw[aKn,f]at cv;simp at cv;subst cv;exact eR
    have lX:∀u∈(Builtin.zeroCells m.cells n).toList,u.oneCell'=true:=fun u f=>by
     obtain⟨j,q,KI⟩:=List.getElem_of_mem f;have re:j<n*z.length:=by rw[<-O];exact q
     have R:(Builtin.zeroCells m.cells n).toList[j]?=some u:=by rw[List.getElem?_eq_getElem q,KI]
     rw[(Q j re).1]at R;exact X u (aKl (by rw[aKn];exact R))
    have lr:∀c∈(aKi n z).flatten,cP c:=fun c d=>by
     obtain⟨l,aD,S⟩:=List.mem_flatten.1 d;rw[List.eq_of_mem_replicate aD]at S;exact Y c S
    obtain⟨bU,ql,w',T,s2,jj,qu⟩:=Kf h (v:=ptrTo b off) (p:=.ao id off) ⟨b,Z,rfl⟩ hF lX (fun j c u d _=>(lr c (aKl d)).gb) he;simp[ptrTo]at T;obtain⟨rfl,rfl⟩:=T;refine⟨.tuple #[],w',g,.inl ?_,jj,by rw[K];exact qu⟩;rw[J];simp only[builtin,List.map_cons,List.map_nil,er,Sem.run_bind,aka f G H (show n≠0 by omega) s2,Result.andThen_ok,Sem.run_pure]
   ·grind
  ·rename_i dj sz r;simp at he;subst he;obtain⟨base,cap,F,_⟩:=(c9 h ah r).yd;exact L F
  ·rename_i sz r;simp at he;subst he;exact L ((c9 h ah r).tk)
  ·cases he
 ·cases y
theorem akd{b:Bool}{v:aI}(h:Rel P gl N g s a w)(j:uQ P o n x v=true)(he:aH gl s (.lf b n x v)=some s'):dR P gl N o g a w s':=by
 refine RO (n:=n) (x:=x) (v:=v) h j ?_;simp only[aH,Option.map_eq_some_iff]at he;obtain⟨H,he,rfl⟩:=he;unfold pv at he;split at he
 ·rename_i id off u d q;have aE:eo gl s.env x=some (.ao id off):=by
   cases x with
   |t k =>
    simp only[bg]at d;split at d
    ·rename_i y r;simp only[Option.some.injEq]at d;subst d;simp only[eo,r]
    ·cases d
   |c y =>
    exfalso;simp only[uQ,aKg]at j;obtain⟨_,i⟩:=j;simp only[bg,Option.some.injEq]at d;subst d;split at i
    ·rename_i t z B aA;simp only[aKg]at i;have:=i.1.1;cases z with
     |const y=>cases y<;>simp[ds,const,z6]at this|_=>simp[ds]at this
    ·cases i
   |f k=>simp[bg]at d|g k =>
    exfalso;simp only[bg]at d;have:=h.gz k _ d;cases this
  simp only[aH,aE,q,aKh];split at he
  ·rename_i cs l;split at he
   ·rename_i m;obtain⟨_,p,U,A⟩:=m;simp only[Option.some.injEq]at he;subst he;rw[if_pos ⟨p,U⟩];simp only[bz,l,List.length_map];rw[if_pos (by omega)]
   ·cases he
  ·rename_i e cs l;split at he
   ·rename_i m;obtain⟨_,p,U,A⟩:=m;simp only[Option.some.injEq]at he;subst he;rw[if_pos ⟨p,U⟩];simp only[bz,l,List.length_map];rw[if_pos (by omega)]
   ·cases he
  ·cases he
 ·cases he
end
def AV.arg:AV->Bool
 |.fn _ cs=>cs.all AV.eb|x=>x.pure
def AE(γ:e4):bo:=⟨γ,fun _=>.none,fun _=>none⟩
def u4(γ:e4)(n:Nat):bo:=⟨γ,fun b=>if b<n then .outer else .var 0,fun _=>none⟩
def ake(P:Program)(γ:e4)(w:World)(r:AV)(e:Ending)(w':World):Prop :=
 ∃v eQ,e=.returned v/\wB γ eQ/\w.heap.size<=w'.heap.size/\(∀b,b<w.heap.size->w'.heap[b]?=w.heap[b]?/\∀o,eQ b o=γ b o)/\((w'.os,w'.tape)=(w.os,w.tape)/\w'.output=w.output) /\
  (∀b off v,eQ b off=some v->w'.cell? ⟨b,off,none⟩=some v)/\bb (u4 eQ w.heap.size) r v/\e6 P (u4 eQ w.heap.size) w' (.var 0) r v
def aF(P:Program)(gl:cp)(f:Nat)(xs:List AV)(r:AV):Prop :=
 ∀γ w vs,(∀b off v,γ b off=some v->w.cell? ⟨b,off,none⟩=some v)->(∀n x,gl n=some x->df γ x (ptrTo n 0))->cr (AE γ) xs vs ->
  Calls P f vs.toArray w (ake P γ w r)
def lz(H:List ax):an:=⟨[],H⟩
def su:Act:=⟨#[],[]⟩
def j6(P:Program)(f:Nat):Bool:=match P.funcs[f]? with|some fn=>fn.name != "runtime.NumGoroutine"&&!fn.body.isNone|none=>false
def bn(P:Program)(gl:cp)(f:Nat)(xs:List AV)(H:List ax)(K:AV->List ax->Prop):Prop :=
 j6 P f=true/\∀g w vs,Rel P gl 0 g (lz H) su w->cr g xs vs->(∀(i:Nat)x v,xs[i]?=some x->vs[i]?=some v->e6 P g w (.var i) x v) ->
  Calls P f vs.toArray w fun e w'=>∃v r H' g',e=.returned v/\K r H'/\ef g w g' w'/\Rel P gl 0 g' (lz H') su w'/\bb g' r v/\e6 P g' w' (.var 0) r v
def jK(P:Program)(gl:cp)(f:Nat)(xs:List AV)(H:List ax)(K:AV->List ax->Prop):Prop:=bn P gl f xs H K/\∃r H',K r H'
variable {P:Program}{gl:cp}{f:Nat}{xs:List AV}{H:List ax}{K K':AV->List ax->Prop}
theorem bn.mono(h:bn P gl f xs H K)(hk:∀r H,K r H->K' r H):bn P gl f xs H K' :=
 ⟨h.1,fun g w vs a U b=>(h.2 g w vs a U b).mono fun _ _ ⟨v,r,c,g',d,e,i⟩=>⟨v,r,c,g',d,hk _ _ e,i⟩⟩
theorem jK.mono(h:jK P gl f xs H K)(hk:∀r H,K r H->K' r H):jK P gl f xs H K' :=
 ⟨h.1.mono hk,h.2.elim fun r ⟨a,h⟩=>⟨r,a,hk _ _ h⟩⟩
def iA:cz->Option Nat
 |.ho d _|.pn d _|.uv d _ _|.pick d _ _ _|.bin d _ _ _ _|.td d _ _ _ _|.po d _|.neg d _|.conv d _ _|.ext d _ _|.len d _ _|.alloc d _|.box d _|.ju d _|.r4 d _|.r5 d _|.build d _ _|.lit d _ _|.e3 d _ _|.mw d _ _ _|.nQ d _ _ _ _|.ld d _ _ _|.iv d _ _ _|.idx d _ _|.pq d _ _ _ _|.qg d _ _ _ _ _|.app d _ _ _ _|.ha d _|.oF d _ _|.q3 d _ _ _|.mx d _ _ _|.ux d|.look _ d _ _ _ _|.h8 _ d _ _ _|.q5 d _|.nc d _|.nR d _|.r6 d _ _ _|.pt d _ _ _|.r7 d _ _ _|.uw d _ _|.q4 d _ _ _|.q6 d _ _ _ _ _|.q7 d _ _|.r8 d _|.r9 d _ _ _|.sa d _ _|.te d _ _ _=>some d|.sb _ _ _|.lf _ _ _ _=>none|.st _ _ _|.hP _ _|.pr _ _ _ _|.qh _ _ _ _=>none|.ps _ d _ _|.ev d _ _|.hB d _ _|.lg d _ _|.lS d _ _|.my d _ _ _|.bad d=>d|.on _ o=>iA o
def AF(s:an)(t:Nat):an:=match Env.get s.env t with
 |some (.v (.ptr id 0))=>{ s with heap:=s.heap.set id .dead }|some (.v (.map id))=>{ s with heap:=s.heap.set id .dead }|_=>s
def l1(env:Env):Option (Nat×Bool)->Option Bool
 |none=>some true|some (t,want)=>match Env.get env t with|some (.v (.bool b))=>some (b==want)|some (.v (.a8 []))=>some false|_=>none
abbrev bc:=Nat->List AV->Option AV
section
variable (P:Program)(gl:cp)(D:bc)
def c8(s:an)(K:an->Prop):cz->Prop
 |.ev d f xs=>match eG gl s.env xs with
  |some vs=>(vs.map AV.aW).all AV.arg=true/\(match D f (vs.map AV.aW)with
   |some r=>aF P gl f (vs.map AV.aW) r/\(match s.fr d r with|some s'=>K s'|none=>False)|none=>False)
  |none=>False
 |.hB d f xs=>match eG gl s.env xs with
  |some vs=>jK P gl f (vs.map AV.aW) s.heap fun r H'=>match({ s with heap:=H' }).fr d r with|some s'=>K s'|none=>False
  |none=>False
 |.lS d f xs=>match eG gl s.env xs with
  |some vs=>jK P gl f (vs.map AV.aW) s.heap fun r H'=>(∃n,H'=s.heap++aKi n .dead)/\match({ s with heap:=H' }).fr d r with|some s'=>K s'|none=>False
  |none=>False
 |.my d f u xs=>match Env.get s.env u,eG gl s.env xs with
  |some (.v (.list (some e) sz ys)),some vs=>jK P gl f (.list (some e) sz ys::vs.map AV.aW) s.heap fun r H'=>match(⟨s.env.ins u (.v (.list none sz ys)),H'⟩:an).fr d r with|some s'=>K s'|none=>False
  |some (.v v),some vs=>jK P gl f (v.aW::vs.map AV.aW) s.heap fun r H'=>match({ s with heap:=H' }:an).fr d r with|some s'=>K s'|none=>False
  |_,_=>False
 |.nc d it=>match(bg gl s.env it).bind (q8 s.heap)with
  |some (id,m,since,seen,es)=>match es with
   |[]=>(match s.put d (.a8 [.bool false])with|some s'=>K s'|none=>False)|e0::es=>∀e∈e0::es,match({ s with heap:=s.heap.set id (.iter m since (seen++[e.1])) }:an).put d (.a8 [.bool true,e.1,e.2.aW])with|some s'=>K s'|none=>False
  |none=>False
 |.lg d x xs=>match bg gl s.env x,eG gl s.env xs with
  |some (.fn f gx),some vs=>jK P gl f (vs.map AV.aW++gx.map AV.aW) s.heap fun r H'=>match({ s with heap:=H' }).fr d r with|some s'=>K s'|none=>False
  |_,_=>False
 |o=>match aH gl s o with|some s'=>K s'|none=>False
def jL:List bk->an->(an->Prop)->Prop
 |[],s,K=>K s|it::r,s,K=>match l1 s.env it.g with
  |some true=>c8 P gl D s (fun s'=>jL r s' K) it.o|some false=>(match iA it.o with
   |some d=>(match s.put d (.a8 [])with|some s'=>jL r s' K|none=>False)|none=>jL r s K)
  |none=>False
def akf(F:an->(kn->an->Prop)->Prop)(s:an)(Q:kn->an->Prop):Prop :=
 ∀X:an->Prop,(∀s,F s (fun e s'=>match e with|.normal=>X s'|e=>Q e s')->X s)->X s
def exec:aG->an->(kn->an->Prop)->Prop
 |.skip,s,Q=>Q .normal s|.ab dc wY,s,Q=>jL P gl D dc s fun s'=>Q .normal { s' with env:=s'.env.close wY }|.seq a b,s,Q=>exec a s fun e s'=>match e with|.normal=>exec b s' Q|e=>Q e s'
 |.cond c a b,s,Q=>match bg gl s.env c with
  |some (.bool t)=>if t=true then exec a s Q else exec b s Q|_=>False
 |.block id c,s,Q=>exec c s fun e s'=>match e with|.exit i=>if i=id then Q .normal s' else Q (.exit i) s'|e=>Q e s'
 |.loop c,s,Q=>akf (fun s Q=>exec c s Q) s Q|.exit id,s,Q=>Q (.exit id) s|.ret,s,Q=>Q .ret s|.FA t c,s,Q=>(match Env.get s.env t with
   |some (.v (.list _ _ xs))=>xs.length<=M->exec c s Q|some (.v (.str l))=>l.length<=M->exec c s Q|_=>False)
 |.drop bu c,s,Q=>exec c { s with env:=s.env.close bu } Q|.qi t e sz c,s,Q=>(match AA s t e sz with|some s'=>exec c s' Q|none=>False)|.sc t off e sz c,s,Q=>(match AB s t off e sz with|some s'=>exec c s' Q|none=>False)|.kill t c,s,Q=>exec c (AF s t) Q|.bad,_,_=>False
end
inductive bF where
 |t (n:Nat)|b (n sz:Nat)
def AG(env:Env):bF->Option AV
 |.t n=>match Env.get env n with|some (.v x)=>some x|_=>none
 |.b n sz=>match Env.get env n with|some (.b cs)=>if cs.length=sz then some (.agg (cs.map AV.aW))else none|_=>none
def AH(env:Env):List bF->Option (List AV)
 |[]=>some []|r::rs=>match AG env r,AH env rs with|some x,some xs=>some (x.aW::xs)|_,_=>none
def ts(env:Env):List bF->Option AV
 |[r]=>AG env r|rs=>(AH env rs).map .a8
-- the checker
section
variable (P:Program)(N:Nat)
def wZ(N:Nat)(o:Oper):Option Nat->Bool
 |some d=>cB N o d|none=>o.dst==none
def j7(o:Oper):cz->Bool
 |.ho d x=>z7 N o d x|.pn d x=>z7 N o d (.t x)|.uv d e sz=>JK P N o d e sz|.pick d c a b=>JL N o d c a b|.bin d m op x y=>JP P N o d m op x y|.td d ne ks x y=>JR P N o d ne ks x y|.po d x=>JM N o d x|.neg d x=>JN N o d x|.conv d k x=>JO P N o d k x|.ext d x i=>JV N o d x i|.len d m x=>JY P N o d m x|.alloc d z=>CB P N o d z|.box d x=>wI N o d x|.ju d z=>Kc P N o d z|.r4 d x=>Kd N o d x|.build d z parts=>Kt P N o d z parts|.lit d sz xs=>Ai P N o d sz xs|.e3 d x off=>J0 P N o d x off|.mw d sz x i=>J1 P N o d sz x i|.ld d x n ag=>wE P N o d x n ag|.iv d x e sz=>Kk P N o d x e sz|.st n x v=>uQ P o n x v|.hP x v=>uQ P o 1 x (.t v)|.idx d x i=>J2 P N o d x i|.pq d sz x bh ak=>J4 P N o d sz x bh ak|.app d u x e sz=>Ga P N o d u x e sz|.ha d x=>Ka N o d x|.oF d f gx=>Kb N o d f gx|.q3 d c e sz=>Kv P N o d c e sz|.mx d kl x y=>J9 N o d kl x y|.uw d e z=>Lp P N o d e z|.q4 d x e sz=>Lq P N o d x e sz|.ux d=>KN N o d|.look ks d m k zero ok=>KO P N o ks d m k zero ok|.h8 ks d m k zero=>K3 P N o ks d m k zero|.pr ks m k v=>CT P o ks m k v|.qh ks m k v=>KZ P o ks m k v|.ps ks d m k=>K0 P N o ks d m k|.q5 d m=>CU P N o d m|.nc d it=>Gi N o d it|.nR d it=>Gj N o d it|.q6 d e sz h2 u x=>Li P N o d e sz h2 u x|.r8 d x=>Ld N o d x|.r9 d e x n=>Le P N o d e x n|.sa d f x=>Az P N o d f "internal/abi.NoEscape" [x]|.lf b n x v=>uQ P o n x v|.sb e z x=>Lr P o e z x|.te d f x y=>Az P N o d f "internal/bytealg.abigen_runtime_cmpstring" [x,y]|.ev d f xs|.hB d f xs|.lS d f xs=>wZ N o d&&j6 P f&&(match o.op with|.call c=>(match c.callee with|.value (.func ib)=>ib==f&&jh c.args.toList xs|_=>false)|_=>false)|.my d f u xs=>wZ N o d&&j6 P f&&(match o.op with|.call c=>(match c.callee with|.value (.func ib)=>ib==f&&jh c.args.toList (.t u::xs)|_=>false)|_=>false)|.lg d x xs=>wZ N o d&&(match o.op with|.call c=>(match c.callee with|.value y=>ds y x&&jh c.args.toList xs|_=>false)|_=>false)|.r5 d x=>wI N o d x|.q7 d ne x=>Kz P N o d ne x|.pt d e sz xs=>CN P N o d e sz xs|.nQ d x n sz i=>KC P N o d x n sz i|.qg d x n sz bh ak=>KE P N o d x n sz bh ak|.r6 d e sz xs=>KJ P N o d e sz xs|.r7 d e z x=>KH P N o d e z x|.on _ lA=>j7 o lA|.bad _=>true
def Gr(ops:Array Oper)(o:Oper)(it:bk):Bool :=
 match o.guard,it.g with
 |none,none=>true|some (j,want),some (t,SK)=>want==SK&&((ops[j]?).bind (·.dst))==some t|_,_=>false
def Gs(o:Oper)(lA:cz):Bool:=match iA lA with|some d=>o.dst==some d&&decide (d<N)|none=>o.dst==none
def AI(ops:Array Oper):List Oper->List bk->Bool
 |[],[]=>true|o::os,it::dc=>Gr ops o it&&Gs N o it.o&&j7 P N o it.o&&AI ops os dc|_,_=>false
end
section
variable {P:Program}{gl:cp}{D:bc}{N:Nat}{g g':bo}{s s':an}{a:Act}{w w':World}{o:Oper}
theorem u5{l:cz}(h:Rel P gl N g s a w)(j:j7 P N o l=true)(he:aH gl s l=some s'):dR P gl N o g a w s':=by
 cases l<;>simp only[j7]at j
 case ho d x=>exact ahv h j he
 case pn d x=>exact ahw h j he
 case uv d e sz=>exact ahx h j he
 case pick d c a b=>exact ahy h j he
 case bin d m op x y=>exact ahP h j he
 case td d ne ks x y=>exact ahO h j he
 case po d x=>exact ahz h j he
 case neg d x=>exact ahA h j he
 case conv d k x=>exact ahB h j he
 case ext d x i=>exact ahR h j he
 case len d m x=>exact ahW h j he
 case alloc d z=>exact aij h j he
 case box d x=>exact aik h j he
 case ju d z=>exact ail h j he
 case r4 d x=>exact aim h j he
 case build d z parts=>exact aiu h j he
 case lit d sz xs=>exact air h j he
 case e3 d x off=>exact ah1 h j he
 case mw d sz x i=>exact ah2 h j he
 case ld d x n ag=>exact ahY h j he
 case iv d x e sz=>exact aip h j he
 case st n x v=>exact RO h j he
 case hP x v=>exact aio h j he
 case idx d x i=>exact ah4 h j he
 case pq d sz x bh ak=>exact ah9 h j he
 case app d u x e sz=>exact aiB h j he
 case ha d x=>exact aic h j he
 case oF d f gx=>exact aie h j he
 case q3 d c e sz=>exact aiv h j he
 case mx d kl x y=>exact aib h j he
 case bad=>cases he
 case on m p =>
  simp only[aH]at he;split at he
  ·exact u5 h j he
  ·cases he
 case r6 d e sz xs=>exact aiS h j he
 case r7 d e z x=>exact aiP h j he
 case nQ d x n sz i=>exact aiK h j he
 case qg d x n sz bh ak=>exact aiM h j he
 case r5 d x=>exact aiE h j he
 case q7 d ne x=>exact aiG h j he
 case pt d e sz xs=>exact aiH h j he
 case ev=>cases he
 case hB=>cases he
 case lg=>cases he
 case lS=>cases he
 case my=>cases he
 case nc=>cases he
 case ux d=>exact aiX h j he
 case look ks d m k zero ok=>exact ai3 h j he
 case h8 ks d m k zero=>exact ajl h j he
 case pr ks m k v=>exact ajc h j he
 case qh ks m k v=>exact ajd h j he
 case ps ks d m k=>exact aji h j he
 case q5 d m=>exact ajo h j he
 case nR d it=>exact ajw h j he
 case q6 d e sz h2 u x=>exact ajV h j he
 case r8 d x=>exact ajE h j he
 case r9 d e x n=>exact ajI h j he
 case uw d e z=>exact aj6 h j he
 case q4 d x e sz=>exact aj8 h j he
 case sa d f x=>exact ajN h j he
 case te d f x y=>exact ajQ h j he
 case sb e z x=>exact akb h j he
 case lf b n x v=>exact akd h j he
def sv(P:Program)(gl:cp)(N:Nat)(g:bo)(w:World)(K:an->Prop)(ch:Act)(w':World):Prop:=∃s' g',K s'/\ef g w g' w'/\Rel P gl N g' s' ch w'
variable {Q:Exit->Act->World->Prop}
theorem dR.wp{K:an->Prop}(h:dR P gl N o g a w s')(c:K s'):o.wp P a w (sv P gl N g w K) Q:=by
 obtain⟨v,w',g',b,d,U⟩:=h;unfold Oper.wp;rcases b with b|⟨b,rfl⟩
 ·rw[b];exact⟨s',g',c,d,U⟩
 ·rw[b];exact⟨s',g',c,d,U⟩
theorem akg(h:j6 P f=true):∃fn,P.funcs[f]?=some fn/\(fn.name== "runtime.NumGoroutine")=false/\fn.body.isNone=false:=by
 unfold j6 at h;split at h
 ·grind
 ·cases h
theorem C0{args:Array Value}(h:j6 P f=true):(callFunc f args).run P w=.ok (.enter f args) w:=by
 obtain⟨fn,b,U,c⟩:=akg h;simp only[callFunc,Sem.run_bind,run_program,Result.andThen_ok,b,U,Bool.false_eq_true,if_false,c,Sem.run_pure]
theorem cr.akh{cs:List AV}{ws:List Value}(h:cr g cs ws)(ah:cs.all AV.eb=true):cr (AE g.γ) cs ws:=by
 induction ws generalizing cs with
 |nil=>cases h;exact .nil|cons u us ih=>cases h with
  |cons c cs _ _ h1 U =>
   simp only[List.all_cons,aKg]at ah;exact .cons _ _ _ _ (.pure _ _ (h1.Kl ah.1)) (ih U ah.2)
variable {x:AV}{v:Value}
theorem SL(h:bb g x v)(ah:x.arg=true):bb (AE g.γ) x v:=by
 by_cases b:∃f cs,x=.fn f cs
 ·obtain⟨f,cs,rfl⟩:=b;cases h with
  |pure _ _ h=>cases h|fn _ _ ws h=>exact .fn _ _ _ (h.akh ah)
 ·have:x.pure=true:=by cases x<;>first|exact ah|exact absurd ⟨_,_,rfl⟩ b
  exact .pure _ _ (h.Kn this)
theorem Ls{vs:List Value}(h:cr g xs vs)(ah:xs.all AV.arg=true):cr (AE g.γ) xs vs:=by
 induction vs generalizing xs with
 |nil=>cases h;exact .nil|cons u us ih=>cases h with
  |cons c cs _ _ h1 U =>
   simp only[List.all_cons,aKg]at ah;exact .cons _ _ _ _ (SL h1 ah.1) (ih U ah.2)
variable {d:Option Nat}
theorem Rel.fr(h:Rel P gl N g s a w)(ao:s.fr d x=some s')(hd:wZ N o d=true)(b:bb g x v)(aA:e6 P g w (.var (d.getD 0)) x v) :
  Rel P gl N g s' (a.put o.dst v) w:=by
 cases d with
 |none =>
  simp[an.fr]at ao;subst ao;simp only[wZ,beq_iff_eq]at hd;rw[hd];exact h
 |some d =>
  simp only[wZ,cB,aKg,beq_iff_eq,decide_eq_true_eq]at hd;rw[hd.1];exact h.put ao hd.2 b aA
theorem aki{xs:List aI}{us:List AV}{r:AV}{K:an->Prop}(h:Rel P gl N g s a w)
  (E:j7 P N o (.ev d f xs)=true)(he:eG gl s.env xs=some us)(aE:(us.map AV.aW).all AV.arg=true)(hd:aF P gl f (us.map AV.aW) r)(ao:s.fr d r=some s')(F:K s') :
  o.wp P a w (sv P gl N g w K) Q:=by
 simp only[j7,aKg]at E;obtain⟨⟨G,sw⟩,m⟩:=E;split at m
 ·rename_i c aA;split at m
  ·rename_i ib ji;simp only[aKg,beq_iff_eq]at m;obtain⟨rfl,iy⟩:=m;have pB:=(uD h iy he).aW;have cu:(execOp a.eval o).run P w=.ok (.enter ib (c.args.toList.map a.eval).toArray) w:=by
    have e:(List.map a.eval c.args.toList).toArray=c.args.map a.eval:=by apply Array.ext';simp
    simp only[execOp,aA,resolve,ji,Act.eval,Deferred.ofValue,Sem.run_bind,Sem.run_pure,Result.andThen_ok,invoke];rw[C0 sw];simp only[Result.ok.injEq,Next.enter.injEq,true_and,and_true];rw[<-e];simp
   unfold Oper.wp;rw[cu];refine(hd g.γ w _ h.ff h.gz (Ls pB aE)).mono fun e w' yA=>?_;obtain⟨v,t,rfl,J,U,u,y,L,O,R⟩:=yA;let k:bo:=⟨t,fun b=>if b<w.heap.size then g.bD b else if v.ownBlock=some b then .var (d.getD 0)else .none,g.b4⟩
   have n:GhLe g k:=⟨J,fun _ _ h=>h⟩;have qk:∀b,g.bD b≠.none->k.bD b=g.bD b/\w'.heap[b]?=w.heap[b]?/\∀o,k.γ b o=g.γ b o:=fun b ae=>by
    have j:=h.own b ae;exact⟨by simp[k,j],(u b j).1,(u b j).2⟩
   have S:∀b,v.ownBlock=some b->(∃e sz xs,r=.list (some e) sz xs)->b<w'.heap.size/\w.heap.size<=b:=by
    intro b ae ⟨e,sz,xs,p⟩;obtain⟨i,z,vs,T,V,W,X,Y,Z,nU,A,B⟩:=R e sz xs p;have q:=(B b ae).1;refine⟨(A.lt b ae).2,?_⟩;simp only[u4]at q;by_cases j:b<w.heap.size
    ·simp[j]at q
    ·omega
   -- without ownership the block of the result is nobody's
   by_cases p:∃e sz xs,r=.list (some e) sz xs
   ·have C:Rel P gl N k s a w':=h.step .none (kH.none s) n (fun b ae=>qk b ae.1) L (fun b ae=>by
     by_cases j:b<w.heap.size
     ·omega
     ·simp[k,j]at ae;exact(S b ae p).1) h.fE
    refine⟨s',k,F,⟨n,fun b ae=>?_,U,y.1,y.2⟩,?_⟩
    ·grind
    ·refine C.fr ao G (O.mono (⟨fun _ _ _ h=>h,fun _ _ h=>by cases h⟩:GhLe (u4 t w.heap.size) k)) ?_;intro e sz xs ah;obtain⟨i,z,vs,T,V,W,X,Y,Z,nU,A,B⟩:=R e sz xs ah;refine⟨i,z,vs,T,V,W,X,Y,Z,nU,A,fun b ae=>?_⟩;have q:=S b ae p;exact⟨by simp[k,show ¬b<w.heap.size by omega,ae],(B b ae).2⟩
   ·let l:bo:=⟨t,fun b=>if b<w.heap.size then g.bD b else .none,g.b4⟩
    have nr:GhLe g l:=⟨J,fun _ _ h=>h⟩;have Gt:∀b,g.bD b≠.none->l.bD b=g.bD b/\w'.heap[b]?=w.heap[b]?/\∀o,l.γ b o=g.γ b o:=fun b ae=>by
     have j:=h.own b ae;exact⟨by simp[l,j],(u b j).1,(u b j).2⟩
    have C:Rel P gl N l s a w':=h.step .none (kH.none s) nr (fun b ae=>Gt b ae.1) L (fun b ae=>by
     by_cases j:b<w.heap.size
     ·omega
     ·simp[l,j]at ae) h.fE
    refine⟨s',l,F,⟨nr,fun b ae=>?_,U,y.1,y.2⟩,?_⟩
    ·grind
    ·exact C.fr ao G (O.mono (⟨fun _ _ _ h=>h,fun _ _ h=>by cases h⟩:GhLe (u4 t w.heap.size) l)) (.lU fun e sz xs ah=>p ⟨e,sz,xs,ah⟩)
  ·cases m
 ·cases m
end
section
variable {P:Program}{gl:cp}{D:bc}{N:Nat}{g g':bo}{s s':an}{a:Act}{w w':World}{o:Oper}
def ey.out:ey->ey
 |.none=>.none|.bA id=>.bA id|.oc id i=>.oc id i|_=>.outer
theorem SM{x:ey}(h:x.out≠.none):x≠.none:=by rintro rfl;exact h rfl
theorem Rel.SN(h:Rel P gl N g s a w)(bD:Nat->ey)(c:∀b,(∃id,g.bD b=.bA id)\/(∃id i,g.bD b=.oc id i)->bD b=g.bD b)(ae:∀b,bD b≠.none->b<w.heap.size) :
  Rel P gl 0 ⟨g.γ,bD,g.b4⟩ (lz s.heap) su w:=by
 refine⟨.nil,rfl,rfl,fun t e he=>by simp[lz,Env.get]at he,fun id bA d=>?_,h.ff,ae,h.gz,h.fE⟩;refine(h.heap id bA d).kept (g':=⟨g.γ,bD,g.b4⟩) (w':=w) (K:=fun o=>(∃i,o=.bA i)\/∃i j,o=.oc i j) ⟨fun _ _ _ h=>h,fun _ _ h=>h⟩ (fun b ae=>⟨c b ?_,rfl,fun _=>rfl⟩) (fun i=>.inl ⟨i,rfl⟩) (fun i=>.inr ⟨id,i,rfl⟩);exact ae
variable {d:Option Nat}{vs:List Value}{K:an->Prop}{Q:Exit->Act->World->Prop}
theorem SO(h:Rel P gl N g s a w)(hd:wZ N o d=true)
  (O:(execOp a.eval o).run P w=.ok (.enter f vs.toArray) w)(bD:Nat->ey)(B:∀b,g.bD b≠.none->bD b=(g.bD b).out)(R:∀b,bD b≠.none->b<w.heap.size)
  (S:cr ⟨g.γ,bD,g.b4⟩ xs vs)(T:∀(i:Nat)x v,xs[i]?=some x->vs[i]?=some v->e6 P ⟨g.γ,bD,g.b4⟩ w (.var i) x v)
  (U:bn P gl f xs s.heap fun r H'=>match({ s with heap:=H' }:an).fr d r with|some s'=>K s'|none=>False):o.wp P a w (sv P gl N g w K) Q:=by
 unfold Oper.wp;rw[O];have m:∀b,(g.bD b).out=.outer->bD b=.outer:=fun b ae=>by rw[B b (fun e=>by rw[e]at ae;cases ae),ae]
 have V:=h.SN bD (fun b ae=>by
  rcases ae with⟨id,ae⟩|⟨id,i,ae⟩<;>rw[B b (by rw[ae];simp),ae]<;>rfl) R
 refine(U.2 ⟨g.γ,bD,g.b4⟩ w vs V S T).mono fun e w' W=>?_;obtain⟨v,r,H',g',rfl,p,c,l,X,Y⟩:=W;split at p
 ·rename_i s' Z;let k:bo:=⟨g'.γ,fun b=>if(g.bD b).out=.outer then g.bD b else if g'.bD b=.var 0 then .var (d.getD 0)else g'.bD b,g'.b4⟩
  have C:GhLe g k:=⟨c.γ,c.b4⟩;have E:GhLe g' k:=⟨fun _ _ _ h=>h,fun _ _ h=>h⟩;have F:∀b,(g.bD b).out=.outer->k.bD b=g.bD b/\w'.heap[b]?=w.heap[b]?/\∀o,k.γ b o=g.γ b o:=fun b ae=>by
   obtain⟨G,u,y⟩:=c.outer b (m b ae);exact⟨by simp[k,ae],u,y⟩
  have hk:Kept g w k w' fun o=>o.out=.outer:=fun b ae=>F b ae;have dN:Rel P gl N k { s with heap:=H' } a w':=by
   refine⟨h.sorted,h.size,h.defers,fun t e he=>(h.env t e he).kept C hk rfl rfl (fun _=>rfl),fun id bA bB=>?_,l.ff,fun b ae=>?_,fun n x ah=>l.gz n x ah,l.fE⟩
   ·have h1:=l.heap id bA bB;have gJ:Kept g' w' k w' fun o=>(∃i,o=.bA i)\/∃i j,o=.oc i j:=fun b ae=>by
     have A:(g.bD b).out≠.outer:=fun e=>by
      have:=(c.outer b (m b e)).1;rcases ae with⟨i,ae⟩|⟨i,j,ae⟩<;>rw[this]at ae<;>cases ae
     refine⟨?_,rfl,fun _=>rfl⟩;rcases ae with⟨i,ae⟩|⟨i,j,ae⟩<;>simp[k,A,ae]
    exact h1.kept E gJ (fun i=>.inl ⟨i,rfl⟩) (fun i=>.inr ⟨id,i,rfl⟩)
   ·by_cases e:(g.bD b).out=.outer
    ·grind
    ·simp only[k,e,if_false]at ae;by_cases J:g'.bD b=.var 0
     ·exact l.own b (by rw[J];simp)
     ·simp[J]at ae;exact l.own b ae
  refine⟨s',k,p,⟨C,fun b ae=>?_,c.size,c.os,c.out⟩,?_⟩
  ·obtain⟨G,u,y⟩:=F b (by rw[ae];rfl);exact⟨G.trans ae,u,y⟩
  ·refine dN.fr Z hd (X.mono E) fun e sz xs ah=>?_;obtain⟨j,z,us,m1,m2,m3,m4,m5,m6,m7,m8,L⟩:=Y e sz xs ah;refine⟨j,z,us,m1,m2,m3,m4,m5,m6,m7,m8,fun b ae=>⟨?_,(L b ae).2⟩⟩;have q:=(L b ae).1;have A:(g.bD b).out≠.outer:=fun e=>by have:=(c.outer b (m b e)).1;rw[this]at q;cases q
   simp[k,A,q]
 ·exact p.elim
theorem Lt(h:Rel P gl N g s a w)(hd:wZ N o d=true)
  (c:(execOp a.eval o).run P w=.ok (.enter f vs.toArray) w)(e:cr g xs vs)(i:∀x∈xs,cP x)
  (j:bn P gl f xs s.heap fun r H'=>match({ s with heap:=H' }:an).fr d r with|some s'=>K s'|none=>False):o.wp P a w (sv P gl N g w K) Q :=
 SO h hd c (fun b=>(g.bD b).out) (fun _ _=>rfl) (fun b ae=>h.own b (SM ae)) (cr.mono (g:=g) (g':=⟨g.γ,fun b=>(g.bD b).out,g.b4⟩) ⟨fun _ _ _ h=>h,fun _ _ h=>h⟩ e) (fun _ x _ ah _=>(i x (aKl ah)).gb) j
theorem Lu{us:List AV}:∀x∈us.map AV.aW,cP x:=tl
variable {xs:List aI}
theorem SR(h:Rel P gl N g s a w)
  (i:j7 P N o (.hB d f xs)=true)(bp:c8 P gl D s K (.hB d f xs)):o.wp P a w (sv P gl N g w K) Q:=by
 simp only[c8]at bp;split at bp
 ·rename_i us he;simp only[j7,aKg]at i;obtain⟨⟨j,k⟩,b⟩:=i;split at b
  ·rename_i c aA;split at b
   ·rename_i l m;simp only[aKg,beq_iff_eq]at b;obtain⟨rfl,n⟩:=b;have p:=(uD h n he).aW;have q:(execOp a.eval o).run P w=.ok (.enter l (c.args.toList.map a.eval).toArray) w:=by
     have e:(List.map a.eval c.args.toList).toArray=c.args.map a.eval:=by apply Array.ext';simp
     simp only[execOp,aA,resolve,m,Act.eval,Deferred.ofValue,Sem.run_bind,Sem.run_pure,Result.andThen_ok,invoke];rw[C0 k];simp only[Result.ok.injEq,Next.enter.injEq,true_and,and_true];rw[<-e];simp
    exact Lt h j q p Lu bp.1
   ·cases b
  ·cases b
 ·exact bp.elim
theorem akj(h:Rel P gl N g s a w)
  (b:j7 P N o (.lS d f xs)=true)(bp:c8 P gl D s K (.lS d f xs)):o.wp P a w (sv P gl N g w K) Q:=by
 refine SR (D:=D) (d:=d) (f:=f) (xs:=xs) h b ?_;simp only[c8]at bp ⊢;split at bp
 ·exact bp.mono fun r H c=>c.2
 ·exact bp
theorem akk{u:Nat}(h:Rel P gl N g s a w)
  (L:j7 P N o (.my d f u xs)=true)(bp:c8 P gl D s K (.my d f u xs)):o.wp P a w (sv P gl N g w K) Q:=by
 simp only[j7,aKg]at L;obtain⟨⟨O,sw⟩,k⟩:=L;split at k
 ·rename_i c aA;split at k
  ·rename_i ib ji;simp only[aKg,beq_iff_eq]at k;obtain⟨rfl,n⟩:=k;have m:(execOp a.eval o).run P w=.ok (.enter ib (c.args.toList.map a.eval).toArray) w:=by
    have e:(List.map a.eval c.args.toList).toArray=c.args.map a.eval:=by apply Array.ext';simp
    simp only[execOp,aA,resolve,ji,Act.eval,Deferred.ofValue,Sem.run_bind,Sem.run_pure,Result.andThen_ok,invoke];rw[C0 sw];simp only[Result.ok.injEq,Next.enter.injEq,true_and,and_true];rw[<-e];simp
   generalize c.args.toList=ys at n m;cases ys with
   |nil=>simp[jh]at n|cons y ys =>
    simp only[jh,List.length_cons,List.zip_cons_cons,List.all_cons,aKg,beq_iff_eq]at n;obtain⟨aD,l,yB⟩:=n;have mB:y=.tmp u:=by
     unfold ds at l;split at l<;>simp_all
    subst mB;have R:jh ys xs=true:=by simp only[jh,aKg,beq_iff_eq];exact⟨by omega,yB⟩
    simp only[c8]at bp;split at bp
    ·rename_i e sz S us p he;obtain⟨v,q,r,t⟩:=h.env _ _ p;have A:a.eval (.tmp u)=v:=by simp[Act.eval,q]
     have B:=(uD h R he).aW;obtain⟨ai,C⟩:=h.strip p;rw[List.map_cons,A]at m
     -- the block that is handed over is nobody's for a while
     let j:bo:=⟨g.γ,fun b=>if v.ownBlock=some b then .none else g.bD b,g.b4⟩
     have E:∀b,v.ownBlock=some b->g.bD b=.var u/\b<w.heap.size:=fun b ae=>by
      obtain⟨i,z,vs,T,U,V,W,X,Y,Z,F,G⟩:=t e sz S rfl;exact⟨(G b ae).1,(F.lt b ae).2⟩
     have SU:ef g w j w:=⟨⟨fun _ _ _ h=>h,fun _ _ h=>h⟩,fun b ae=>⟨by
      have:v.ownBlock≠some b:=fun e=>by rw[(E b e).1]at ae;cases ae
      simp[j,this,ae],rfl,fun _=>rfl⟩,Nat.le_refl _,rfl,rfl⟩
     have l2:Rel P gl N j { s with env:=s.env.ins u (.v (.list none sz S)) } a w:=by
      refine C.step (.var u) (F9 _ _ _ _) SU.toGhLe (fun b ae=>⟨?_,rfl,fun _=>rfl⟩) C.ff (fun b ae=>?_) C.fE
      ·grind
      ·by_cases e:v.ownBlock=some b
       ·exact(E b e).2
       ·simp[j,e]at ae;exact h.own b ae
     let bD:Nat->ey:=fun b=>if v.ownBlock=some b then .var 0 else(g.bD b).out
     have yA:o.wp P a w (sv P gl N j w K) Q:=by
      refine SO l2 O m bD (fun b ae=>?_) (fun b ae=>?_) ?_ ?_ bp.1
      ·grind
      ·by_cases e:v.ownBlock=some b
       ·exact(E b e).2
       ·simp only[bD,e,if_false]at ae;exact h.own b (SM ae)
      ·exact .cons _ _ _ _ (bb.mono (g:=g) (g':=⟨j.γ,bD,j.b4⟩) ⟨fun _ _ _ h=>h,fun _ _ h=>h⟩ r) (cr.mono (g:=g) (g':=⟨j.γ,bD,j.b4⟩) ⟨fun _ _ _ h=>h,fun _ _ h=>h⟩ B)
      ·intro i x cQ ah dU;cases i with
       |zero =>
        simp at ah dU;subst ah dU;intro b3 dE J bJ;obtain⟨i,z,vs,T,U,V,W,X,Y,Z,F,G⟩:=t b3 dE J bJ;exact⟨i,z,vs,T,U,V,W,X,Y,Z,F,fun b ae=>⟨by simp[bD,ae],(G b ae).2⟩⟩
       |succ i =>
        simp only[List.getElem?_cons_succ]at ah;exact(tl x (aKl ah)).gb
     exact Oper.wp_mono (fun ch w' ⟨s',g',al,au,aS⟩=>⟨s',g',al,SU.trans au,aS⟩) yA
    ·rename_i x us lr p he;obtain⟨v,q,r,t⟩:=h.env _ _ p;have A:a.eval (.tmp u)=v:=by simp[Act.eval,q]
     have B:=(uD h R he).aW;rw[List.map_cons,A]at m;exact Lt h O m (.cons _ _ _ _ r.aW B) (fun y l=>by
      rcases List.mem_cons.1 l with rfl|l
      ·exact cP.aW _
      ·exact tl y l) bp.1
    ·exact bp.elim
  ·cases k
 ·cases k
theorem bb.akm{cs:List AV}{v:Value}(h:bb g (.fn f cs) v):∃ws,v=.func (.func f) #[] ws.toArray/\cr g cs ws:=by
 cases h with
 |pure _ _ h=>cases h|fn _ _ ws h=>exact⟨ws,rfl,h⟩
theorem akn{x:aI}(h:Rel P gl N g s a w)
  (i:j7 P N o (.lg d x xs)=true)(bp:c8 P gl D s K (.lg d x xs)):o.wp P a w (sv P gl N g w K) Q:=by
 simp only[c8]at bp;split at bp
 ·rename_i f gx us ah he;simp only[j7,aKg]at i;obtain⟨j,b⟩:=i;split at b
  ·rename_i c aA;split at b
   ·rename_i y k;simp only[aKg]at b;obtain⟨l,m⟩:=b;have n:=(uD h m he).aW;obtain⟨ws,p,q⟩:=(c9 h l ah).akm;have r:(execOp a.eval o).run P w=.ok (.enter f (c.args.toList.map a.eval++ws).toArray) w:=by
     have e:(List.map a.eval c.args.toList).toArray=c.args.map a.eval:=by apply Array.ext';simp
     simp only[execOp,aA,resolve,k,p,Deferred.ofValue,Sem.run_bind,Sem.run_pure,Result.andThen_ok,invoke];rw[C0 bp.1.1];simp only[Result.ok.injEq,Next.enter.injEq,true_and,and_true];rw[<-e];simp
    refine Lt h j r (n.append q.aW) (fun x ah=>?_) bp.1;rcases aKj.1 ah with ah|ah
    ·exact Lu x ah
    ·exact Lu x ah
   ·cases b
  ·cases b
 ·exact bp.elim
end
section
variable {P:Program}{gl:cp}{D:bc}{N:Nat}{g g':bo}{s s':an}{a:Act}{w w':World}{o:Oper}
variable {Q:Exit->Act->World->Prop}
theorem ako{i:cz}{K:an->Prop}(h:Rel P gl N g s a w)(b:j7 P N o i=true)(bp:c8 P gl D s K i):o.wp P a w (sv P gl N g w K) Q:=by
 have y:∀t,t=i->(match aH gl s t with|some s'=>K s'|none=>False)->o.wp P a w (sv P gl N g w K) Q:=by
  rintro _ rfl bp;split at bp
  ·rename_i s' he;exact(u5 h b he).wp bp
  ·exact bp.elim
 cases i<;>first
  |exact y _ rfl bp|skip
 case ev d f xs =>
  simp only[c8]at bp;split at bp
  ·rename_i us he;obtain⟨z,U⟩:=bp;split at U
   ·rename_i r j;obtain⟨U,k⟩:=U;split at k
    ·rename_i s' ao;exact aki h b he z U ao k
    ·exact k.elim
   ·exact U.elim
  ·exact bp.elim
 case hB d f xs=>exact SR h b bp
 case lg d x xs=>exact akn h b bp
 case lS d f xs=>exact akj h b bp
 case my d f u xs=>exact akk h b bp
 case nc d it =>
  simp only[c8]at bp;simp only[j7,Gi,aKg]at b;obtain⟨hd,l⟩:=b;split at l
  ·rename_i C aA;have c:=hd;simp only[cB,aKg,beq_iff_eq,decide_eq_true_eq]at c;split at bp
   ·rename_i id m since seen es n;obtain⟨x,ah,n⟩:=bind_some n;rcases Sw h aA l ah n with⟨rfl,j⟩|⟨e,he,w',v,j,p,A,B,_⟩
    ·simp only at bp;split at bp
     ·rename_i s' q;unfold Oper.wp;rw[j];refine⟨s',g,bp,.refl _ _,?_⟩;rw[c.1];exact h.put q c.2 (.a8 _ [.bool false] (.cons _ _ _ _ (.pure _ _ (.bool _)) .nil)) (.lU fun _ _ _ h=>by simp at h)
     ·exact bp.elim
    ·cases es with
     |nil=>simp at he|cons e0 es =>
      simp only at bp;have:=bp e he;split at this
      ·rename_i s' q;unfold Oper.wp;rw[j];refine⟨s',g,this,p,?_⟩;rw[c.1];exact B.put q c.2 A (.lU fun _ _ _ h=>by simp at h)
      ·exact this.elim
   ·exact bp.elim
  ·cases l
def C2(P:Program)(N:Nat)(ops:Array Oper)(o:Oper)(it:bk):Bool:=Gr ops o it&&Gs N o it.o&&j7 P N o it.o
variable {ops:Array Oper}
theorem SV(h:Rel P gl N g s a w){it:bk}{b:Bool}(e:Gr ops o it=true)(c:l1 s.env it.g=some b) :
  Region.wanted o (yielded ops a.tmps)=b:=by
 unfold Gr at e;split at e
 ·rename_i i U;rw[U]at c;simp[l1]at c;simp[Region.wanted,i,c]
 ·rename_i j d t q i U;simp only[aKg,beq_iff_eq]at e;obtain⟨rfl,m⟩:=e;rw[U]at c;simp only[l1]at c;split at c
  ·rename_i n ae;simp at c;obtain⟨v,k,l,_⟩:=h.env _ _ ae;have:v=.bool n:=by
    cases l with
    |pure _ _ ao=>cases ao;rfl
   subst this;simp only[Region.wanted,i,yielded,m,aKh,k];rw[<-c];cases n<;>cases d<;>rfl
  ·rename_i ae;simp at c;obtain⟨v,k,l,_⟩:=h.env _ _ ae;have:v=.tuple #[]:=by
    cases l with
    |pure _ _ ao=>cases ao|a8 _ ws p=>cases p;rfl
   subst this;simp only[Region.wanted,i,yielded,m,aKh,k];subst c;cases d<;>rfl
  ·cases c
 ·cases e
theorem SX{dc:List bk}{K:an->Prop}{g0:bo}{w0:World}
  (u:∀s' g' p w',K s'->ef g0 w0 g' w'->Rel P gl N g' s' p w'->Q .normal p w') :
  ∀(l:List Nat),(∀i∈l,∃o it,ops[i]?=some o/\dc[i]?=some it/\C2 P N ops o it=true) ->
   ∀s g a w,Rel P gl N g s a w->ef g0 w0 g w->jL P gl D (l.filterMap (dc[·]?)) s K->wpOps P ops Q l a w:=by
 intro l;induction l with
 |nil=>intro _ s g a w h b c;exact u s g a w c b h|cons i rest ih =>
  intro q s g a w h b c;obtain⟨o,it,aA,v,r⟩:=q i (by simp);simp only[C2,aKg]at r;obtain⟨⟨t,e⟩,j⟩:=r;have k:=ih fun i ak=>q i (by simp[ak]);simp only[List.filterMap_cons,v,jL]at c;simp only[wpOps,aA];split at c
  ·rename_i m;rw[SV h t m];simp only[if_true];refine .inl (Oper.wp_mono ?_ (ako h j c));rintro x cv ⟨n,y,hk,z,A⟩;exact k n y x cv A (b.trans z) hk
  ·rename_i m;rw[SV h t m];simp only[Bool.false_eq_true,if_false];split at c
   ·rename_i d hd;simp only[Gs,hd,aKg,beq_iff_eq,decide_eq_true_eq]at e;rw[e.1];split at c
    ·rename_i n B;exact k n g _ w (h.put B e.2 (.a8 _ _ .nil) (.lU fun _ _ _ h=>by simp at h)) b c
    ·exact c.elim
   ·rename_i hd;simp only[Gs,hd,beq_iff_eq]at e;rw[e];exact k s g a w h b c
  ·exact c.elim
theorem Rel.drawn(h:Rel P gl N g s a w):Rel P gl N g s a { w with drawn:=w.drawn+1 } :=
 h.later (K:=fun _=>True) (g':=g) (w':={ w with drawn:=w.drawn+1 }) ⟨fun _ _ _ h=>h,fun _ _ h=>h⟩ (fun _ _=>⟨rfl,rfl,fun _=>rfl⟩) (fun _ _=>trivial) (fun b off v c=>h.ff b off v c) (fun b ae=>h.own b ae) h.fE
theorem SY :∀{os:List Oper}{dc:List bk},AI P N ops os dc=true->os.length=dc.length/\∀(i:Nat)o it,os[i]?=some o->dc[i]?=some it->C2 P N ops o it=true
 |[],[],_=>⟨rfl,by simp⟩|[],_::_,h=>by simp[AI]at h|_::_,[],h=>by simp[AI]at h|o::os,it::dc,h=>by
  simp only[AI,aKg]at h;obtain⟨b,U⟩:=SY h.2;refine⟨by simp[b],fun i c d aA ak=>?_⟩;cases i with
  |zero=>simp at aA ak;subst aA ak;simp only[C2,aKg];exact h.1|succ i=>exact U i c d (by simpa using aA) (by simpa using ak)
theorem SZ(L:List bk):∀(dc b:List bk),L=b++dc->(List.range' b.length dc.length).filterMap (L[·]?)=dc
 |[],b,_=>rfl|it::dc,b,h=>by
  have c:L[b.length]?=some it:=by simp[h]
  have U:=SZ L dc (b++[it]) (by simp[h]);simp only[List.length_append,List.length_cons,List.length_nil,Nat.zero_add]at U;simp only[List.length_cons,List.range'_succ,List.filterMap_cons,c,U]
theorem akq(dc:List bk):(List.range dc.length).filterMap (dc[·]?)=dc:=by
 have:=SZ dc dc [] rfl;rw[List.range_eq_range'];exact this
end
section
variable {P:Program}{gl:cp}{D:bc}{s:an}
theorem Gv{b:cz}{K K':an->Prop}(h:c8 P gl D s K b)(hk:∀s,K s->K' s):c8 P gl D s K' b:=by
 have e:∀c,c=b->(match aH gl s c with|some s'=>K s'|none=>False)->(match aH gl s c with|some s'=>K' s'|none=>False):=by grind
 cases b<;>first
  |exact e _ rfl h|skip
 case ev d f xs =>
  simp only[c8]at h ⊢;split at h
  ·grind
  ·exact h.elim
 case hB d f xs =>
  simp only[c8]at h ⊢;split at h
  ·refine h.mono fun r H a=>?_;split at a
   ·exact hk _ a
   ·exact a.elim
  ·exact h.elim
 case lg d x xs =>
  simp only[c8]at h ⊢;split at h
  ·refine h.mono fun r H a=>?_;split at a
   ·exact hk _ a
   ·exact a.elim
  ·exact h.elim
 case lS d f xs =>
  simp only[c8]at h ⊢;split at h
  ·refine h.mono fun r H a=>⟨a.1,?_⟩;have a:=a.2;split at a
   ·exact hk _ a
   ·exact a.elim
  ·exact h.elim
 case my d f u xs =>
  simp only[c8]at h ⊢;split at h
  ·refine h.mono fun r H a=>?_;split at a
   ·exact hk _ a
   ·exact a.elim
  ·refine h.mono fun r H a=>?_;split at a
   ·exact hk _ a
   ·exact a.elim
  ·exact h.elim
 case nc d it =>
  simp only[c8]at h ⊢;split at h
  ·grind
  ·exact h.elim
theorem Gw{K K':an->Prop}(hk:∀s,K s->K' s):∀{dc:List bk}{s:an},jL P gl D dc s K->jL P gl D dc s K'
 |[],_,h=>hk _ h|it::dc,s,h=>by
  simp only[jL]at h ⊢;split at h
  ·exact Gv h fun s h=>Gw hk h
  ·split at h
   ·split at h
    ·exact Gw hk h
    ·exact h.elim
   ·exact Gw hk h
  ·exact h.elim
end
def cC:aI->List Nat
 |.t n=>[n]|_=>[]
def oU:List aI->List Nat
 |[]=>[]|x::r=>cC x++oU r
def AJ:Option aI->List Nat
 |none=>[]|some x=>cC x
def yC:List (Nat×Nat×aI)->List Nat
 |[]=>[]|(_,_,x)::r=>cC x++yC r
def dn:cz->List Nat
 |.ho _ x=>cC x|.td _ _ _ x y=>cC x++cC y|.po _ x=>cC x|.neg _ x=>cC x|.conv _ _ x=>cC x|.len _ _ x=>cC x|.box _ x=>cC x|.r4 _ x=>cC x|.r5 _ x=>cC x|.e3 _ x _=>cC x|.ld _ x _ _=>cC x|.iv _ x _ _=>cC x|.ha _ x=>cC x|.q3 _ x _ _=>cC x|.q5 _ x=>cC x|.nc _ x=>cC x|.nR _ x=>cC x|.r7 _ _ _ x=>cC x|.q7 _ _ x=>cC x|.r8 _ x=>cC x|.sa _ _ x=>cC x|.q4 _ x _ _=>cC x|.uw _ _ _=>[]|.pn _ x=>[x]|.uv _ _ _=>[]|.alloc _ _=>[]|.ju _ _=>[]|.ux _=>[]|.bad _=>[]|.pick _ c x y=>cC c++(cC x++cC y)|.bin _ _ _ x y=>cC x++cC y|.mw _ _ x y=>cC x++cC y|.nQ _ x _ _ y=>cC x++cC y|.st _ x y=>cC x++cC y|.idx _ x y=>cC x++cC y|.mx _ _ x y=>cC x++cC y|.look _ _ x y _ _=>cC x++cC y|.h8 _ _ x y _=>cC x++cC y|.ps _ _ x y=>cC x++cC y|.r9 _ _ x y=>cC x++cC y|.te _ _ x y=>cC x++cC y|.sb _ _ x=>cC x|.lf _ _ x y=>cC x++cC y|.ext _ x _=>[x]|.build _ _ bP=>yC bP|.lit _ _ xs=>oU xs|.pt _ _ _ xs=>oU xs|.r6 _ _ _ xs=>oU xs|.oF _ _ xs=>oU xs|.ev _ _ xs=>oU xs|.hB _ _ xs=>oU xs|.lS _ _ xs=>oU xs|.hP x v=>v::cC x|.pq _ _ x bh ak=>cC x++(AJ bh++AJ ak)|.qg _ x _ _ bh ak=>cC x++(AJ bh++AJ ak)|.app _ u x _ _=>u::cC x|.q6 _ _ _ _ u x=>cC u++cC x|.pr _ m k v=>cC m++(cC k++cC v)|.qh _ m k v=>v::(cC m++cC k)|.my _ _ u xs=>u::oU xs|.lg _ x xs=>cC x++oU xs|.on _ o=>dn o
def rr:cz->List Nat
 |.pn _ x=>[x]|.hP _ v=>[v]|.app _ u _ _ _=>[u]|.qh _ _ _ v=>[v]|.my _ _ u _=>[u]|.on _ o=>rr o|_=>[]
def dz(o:cz):List Nat:=(match iA o with|some d=>[d]|none=>[])++rr o
namespace Env
theorem Gx(e:Env){t u:Nat}(x y:cW)(h:t≠u):(e.ins t x).ins u y=(e.ins u y).ins t x:=by
 induction e with
 |nil =>
  simp only[ins];by_cases a:u<t
  ·grind
  ·grind
 |cons p r ih =>
  obtain⟨k,z⟩:=p;simp only[ins];rcases aKm t k with a|a|a
  ·rcases aKm u k with U|U|U
   ·simp only[a,U,if_true,ins];by_cases b:u<t
    ·grind
    ·grind
   ·subst U;simp only[a,if_true,Nat.lt_irrefl,if_false,ins];simp[show ¬u<t by omega,show ¬u=t by omega]
   ·simp only[a,if_true,show ¬u<k by omega,show ¬u=k by omega,if_false,ins];simp[show ¬u<t by omega,show ¬u=t by omega]
  ·subst a;rcases aKm u t with U|U|U
   ·simp only[U,if_true,Nat.lt_irrefl,if_false,ins];simp[show ¬t<u by omega,show ¬t=u by omega]
   ·exact absurd U.symm h
   ·simp only[show ¬u<t by omega,show ¬u=t by omega,Nat.lt_irrefl,if_true,if_false,ins]
  ·rcases aKm u k with U|U|U
   ·simp only[U,if_true,show ¬t<k by omega,show ¬t=k by omega,if_false,ins];simp[show ¬t<u by omega,show ¬t=u by omega]
   ·subst U;simp only[show ¬t<u by omega,show ¬t=u by omega,Nat.lt_irrefl,if_true,if_false,ins]
   ·simp only[show ¬t<k by omega,show ¬t=k by omega,show ¬u<k by omega,show ¬u=k by omega,if_false,ins,ih]
end Env
section
variable {gl:cp}{env:Env}{d:Nat}{x:cW}
variable {t:Nat}
theorem qv(h:t≠d):(env.ins d x).get t=env.get t:=by rw[Env.hp,if_neg h]
variable {y:aI}
theorem u7(h:d∉cC y):bg gl (env.ins d x) y=bg gl env y:=by
 cases y<;>simp only[bg];rename_i n;rw[qv (by rintro rfl;simp[cC]at h)]
theorem Gy:∀{ys:List aI},d∉oU ys->eG gl (env.ins d x) ys=eG gl env ys
 |[],_=>rfl|y::ys,h=>by
  simp only[oU,aKj,not_or]at h;simp only[eG,u7 h.1,Gy h.2]
theorem akr{n:Nat}{y:Option aI}(h:d∉AJ y):hC gl (env.ins d x) n y=hC gl env n y:=by
 cases y with
 |none=>rfl|some y=>simp only[hC,u7 (y:=y) h]
theorem S0:∀{c:List (Nat×Nat×aI)}{z:List AV},d∉yC c->nS gl (env.ins d x) z c=nS gl env z c
 |[],_,_=>rfl|(a,b,y)::c,z,h=>by
  simp only[yC,aKj,not_or]at h;simp only[nS,u7 h.1,S0 h.2]
theorem w2(h:d∉cC y):eo gl (env.ins d x) y=eo gl env y:=by
 cases y<;>simp only[eo];rename_i n;rw[qv (by rintro rfl;simp[cC]at h)]
theorem u9(h:d∉cC y):ew (env.ins d x) y=ew env y:=by
 cases y<;>simp only[ew];rename_i n;rw[qv (by rintro rfl;simp[cC]at h)]
theorem tt(h:t≠d):eH (env.ins d x) t=eH env t:=by simp only[eH,qv h]
def dy(d:Nat)(x:cW)(H:List ax)(s:an):an:=⟨s.env.ins d x,H⟩
variable {H':List ax}
theorem lB{y:AV}(h:t≠d):(⟨env.ins d x,H'⟩:an).put t y=((⟨env,H⟩:an).put t y).map (dy d x H'):=by
 simp only[an.put,tt h];split
 ·simp only[aKk,dy];rw[Env.Gx _ _ _ (Ne.symm h)]
 ·rfl
theorem aks{t:Option Nat}{y:AV}(h:∀u,t=some u->u≠d):(⟨env.ins d x,H'⟩:an).fr t y=((⟨env,H⟩:an).fr t y).map (dy d x H'):=by
 cases t with
 |none=>rfl|some t=>exact lB (h t rfl)
theorem C3{y:cW}(h:t≠d):(some ⟨(env.ins d x).ins t y,H'⟩:Option an)=(some (⟨env.ins t y,H⟩:an)).map (dy d x H'):=by
 simp only[aKk,dy];rw[Env.Gx _ _ _ (Ne.symm h)]
theorem tu{α:Type}{o:Option α}{f:α->Option an}{b:α->Option an}(h:∀a,b a=(f a).map (dy d x H')):o.bind b=(o.bind f).map (dy d x H'):=by
 cases o with
 |none=>rfl|some a=>exact h a
end
open Go
def br:cz->Nat
 |.ho _ _|.pn _ _|.uv _ _ _|.pick _ _ _ _|.bin _ _ _ _ _|.td _ _ _ _ _|.po _ _|.neg _ _|.conv _ _ _|.ext _ _ _|.r5 _ _|.build _ _ _|.lit _ _ _|.pt _ _ _ _|.mw _ _ _ _|.idx _ _ _|.pq _ _ _ _ _|.qg _ _ _ _ _ _|.app _ _ _ _ _|.oF _ _ _|.q3 _ _ _ _|.mx _ _ _ _|.q7 _ _ _|.r8 _ _|.sa _ _ _|.te _ _ _ _|.ev _ _ _=>0|.e3 _ _ _|.nQ _ _ _ _ _|.ha _ _=>1|.len _ m _=>if m=2 then 5 else 0|.alloc _ _|.box _ _=>2|.look _ _ _ _ _ _|.nR _ _=>5|.lS _ _ _=>6|.on m (.ld _ _ _ _)=>if m=3 then 0 else if m=4 then 5 else if m=1\/m=2 then 7 else 9|.on m (.e3 _ _ _)|.on m (.ha _ _)=>if m=3\/m=4 then 0 else 9|.on m (.iv _ _ _ _)|.on m (.st _ _ _)|.on m (.hP _ _)=>if m=4 then 4 else if m=1\/m=2 then 3 else 9|.h8 _ _ _ _ _|.pr _ _ _ _|.qh _ _ _ _|.ps _ _ _ _|.ux _|.q5 _ _|.nc _ _|.r6 _ _ _ _|.r7 _ _ _ _|.uw _ _ _|.q4 _ _ _ _|.ju _ _|.r4 _ _|.q6 _ _ _ _ _ _|.r9 _ _ _ _|.lf _ _ _ _|.hB _ _ _|.my _ _ _ _|.lg _ _ _=>4|_=>9
def cW.eV:cW->Bool
 |.b _=>true|_=>false
def cW.gy:cW->Bool
 |.a _ _=>true|_=>false
section
variable {gl:cp}{env:Env}{d:Nat}{x:cW}{H H':List ax}
variable {t:Nat}
theorem Gz{l:List Nat}(h:d∉l)(a:t∈l):t≠d:=fun e=>h (e▸a)
variable {o:cz}
theorem oV(a:d∉dz o)(b:iA o=some t):t≠d:=fun e=>a (by simp[dz,b,e])
variable {s:an}{y:AV}
theorem S1(h:t≠d):(dy d x H' s).put t y=(s.put t y).map (dy d x H'):=lB (H:=s.heap) h
theorem S2{u:Nat}{z:AV}(a:t≠d)(U:u≠d):((⟨env.ins d x,H'⟩:an).put t y).bind (fun s=>s.put u z)=(((⟨env,H⟩:an).put t y).bind fun s=>s.put u z).map (dy d x H'):=by
 rw[lB (H:=H) a];cases (⟨env,H⟩:an).put t y with
 |none=>rfl|some s=>exact S1 U
theorem akt(hk:br o=0\/br o=1)(j:∀m g,o≠.on m g)(a:d∉dn o)(c:d∉dz o):aH gl ⟨env.ins d x,H'⟩ o=(aH gl ⟨env,H⟩ o).map (dy d x H'):=by
 cases o<;>simp only[br,reduceCtorEq,or_self,Nat.reduceEqDiff]at hk
 case on m g=>exact absurd rfl (j m g)
 case ev=>rfl
 case pn d2 y =>
  have b:y≠d:=Gz a (by simp[dn]);have U:d2≠d:=oV c rfl;simp only[aH,qv b];split
  ·split
   ·rfl
   ·exact S2 b U
  ·exact lB U
  ·rfl
 case ext d2 y i =>
  have b:y≠d:=Gz a (by simp[dn]);simp only[aH,qv b];split
  ·exact tu fun v=>lB (oV c rfl)
  ·rfl
 case app d2 u y e sz =>
  have b:u≠d:=Gz a (by simp[dn]);have U:d2≠d:=oV c rfl;have k:d∉cC y:=fun h=>a (by simp[dn,h]);simp only[aH,qv b,u7 k];split
  ·split
   ·exact S2 b U
   ·rfl
  ·split
   ·exact lB U
   ·rfl
  ·rfl
 case e3 d2 y off =>
  have U:d2≠d:=oV c rfl;simp only[dn]at a;simp only[aH,w2 a,tt U];split
  ·split
   ·exact C3 U
   ·rfl
  ·exact lB U
  ·split
   ·exact lB U
   ·rfl
  ·rfl
 case nQ d2 y n sz i =>
  have U:d2≠d:=oV c rfl;simp only[dn,aKj,not_or]at a;simp only[aH,w2 a.1,u7 a.2,tt U];split
  ·split
   ·exact C3 U
   ·rfl
  ·split
   ·exact lB U
   ·rfl
  ·split
   ·exact lB U
   ·rfl
  ·rfl
 case ha d2 y =>
  have U:d2≠d:=oV c rfl;simp only[dn]at a;cases y with
  |t n =>
   have b:n≠d:=Gz a (by simp[cC]);simp only[aH,qv b,tt U];split
   ·split
    ·exact C3 U
    ·rfl
   ·split
    ·exact C3 U
    ·rfl
   ·exact lB U
   ·exact lB U
   ·rfl
  |_=>rfl
 case len d2 m y =>
  have hm:m≠2:=by rintro rfl;simp at hk
  have U:d2≠d:=oV c rfl;simp only[dn]at a;simp only[aH,u7 a,hm,if_false]
  repeat' (first|exact lB U|rfl|split)
 all_goals
  have U:=fun t l=>oV (t:=t) c l;simp only[iA,Option.some.injEq,forall_eq']at U;simp only[dn]at a;simp(disch:=(refine mt (fun p=>?_) a;simp[p])) only[aH,u7,Gy,akr,S0,w2]
  repeat' (first|exact lB U|rfl|(refine tu fun _=>?_)|split)
variable {y:aI}
theorem S3(h:ew env y=3):eo gl env y=none\/∃cs,eo gl env y=some (.jf cs):=by
 cases y with
 |t n =>
  simp only[ew]at h;simp only[eo];split at h<;>simp_all
 |g n =>
  simp only[eo];split
  ·exact .inr ⟨_,rfl⟩
  ·exact .inl rfl
 |_=>simp[ew]at h
theorem w3(h:ew env y=1\/ew env y=2):∃t off,eo gl env y=some (.ee t off):=by
 cases y with
 |t n =>
  simp only[ew]at h;simp only[eo];split at h<;>simp_all
 |_=>simp[ew]at h
theorem S4(h:ew env y=4):∃id off,eo gl env y=some (.ao id off):=by
 cases y with
 |t n =>
  simp only[ew]at h;simp only[eo];split at h<;>simp_all
 |_=>simp[ew]at h
variable {n off:Nat}
theorem S5(ah:x.eV=false)(aA:∀cs,env.get d≠some (.b cs)):bC ⟨env.ins d x,H'⟩ n (.ee t off)=bC ⟨env,H⟩ n (.ee t off):=by
 simp only[bC,Env.hp];by_cases h:t=d
 ·subst h;simp only[if_true];cases x with
  |b cs=>simp[cW.eV]at ah|_=>grind
 ·simp only[h,if_false]
variable {vs:List AV}
theorem Lx(ah:x.eV=false)(aA:∀cs,env.get d≠some (.b cs)):bz ⟨env.ins d x,H'⟩ vs (.ee t off)=(bz ⟨env,H⟩ vs (.ee t off)).map (dy d x H'):=by
 simp only[bz,Env.hp];by_cases h:t=d
 ·subst h;simp only[if_true];cases x with
  |b cs=>simp[cW.eV]at ah|_=>grind
 ·simp only[h,if_false];split
  ·split
   ·simp only[aKk,dy];rw[Env.Gx _ _ _ (Ne.symm h)]
   ·rfl
  ·rfl
theorem aku(ah:x.eV=false)(aA:∀cs,s.env.get d≠some (.b cs)):bz (dy d x H' s) vs (.ee t off)=(bz s vs (.ee t off)).map (dy d x H') :=
 Lx (H:=s.heap) ah aA
variable {m:Nat}
theorem kS(h:ew s.env (fG o)=m):aH gl s (.on m o)=aH gl s o:=by simp only[aH,h,if_true]
theorem kT(h:¬ew s.env (fG o)=m):aH gl s (.on m o)=none:=by simp only[aH,h,if_false]
def ru(gl:cp)(env:Env)(m:Nat)(y:aI)(off:Nat)(yD:Bool):Option AV :=
 if ew env y=m then(match yD,y with
  |true,.g _=>none|_,_=>match eo gl env y with
   |some (.ao id o)=>some (.ptr id (o+off))|some (.jf cs)=>if off<=cs.length then some (.db (cs.drop off))else none|_=>none)else none
theorem AK{d:Nat}(hm:m=3\/m=4):aH gl ⟨env,H⟩ (.on m (.e3 d y off))=(ru gl env m y off false).bind fun v=>(⟨env,H⟩:an).put d v:=by
 by_cases hk:ew env y=m
 ·rw[kS (s:=⟨env,H⟩) (by simp only[fG,hk])];simp only[aH,ru,if_pos hk];rcases hm with rfl|rfl
  ·rcases S3 (gl:=gl) hk with h|⟨cs,h⟩
   ·rw[h];rfl
   ·rw[h];simp only;split<;>rfl
  ·obtain⟨id,o,h⟩:=S4 (gl:=gl) hk;rw[h];rfl
 ·rw[kT (s:=⟨env,H⟩) (by simp only[fG];exact hk)];simp only[ru,if_neg hk];rfl
theorem AL{d:Nat}(hm:m=3\/m=4):aH gl ⟨env,H⟩ (.on m (.ha d y))=(ru gl env m y 0 true).bind fun v=>(⟨env,H⟩:an).put d v:=by
 by_cases hk:ew env y=m
 ·rw[kS (s:=⟨env,H⟩) (by simp only[fG,hk])];simp only[aH,ru,if_pos hk];cases y with
  |t n =>
   simp only[ew]at hk;simp only[eo];split at hk
   ·subst hk;simp at hm
   ·subst hk;simp at hm
   ·rename_i cs h;rw[h];simp
   ·rename_i id o h;rw[h];simp
   ·subst hk;simp at hm
  |g n=>rfl|_=>simp[ew]at hk;subst hk;simp at hm
 ·rw[kT (s:=⟨env,H⟩) (by simp only[fG];exact hk)];simp only[ru,if_neg hk];rfl
theorem S6{a:Bool}(h:d∉cC y):ru gl (env.ins d x) m y off a=ru gl env m y off a:=by
 simp only[ru,u9 h,w2 h]
variable {d2:Nat}
theorem akv(hm:m=3\/m=4)(a:d∉cC y)(U:d2≠d) :
  aH gl ⟨env.ins d x,H'⟩ (.on m (.e3 d2 y off))=(aH gl ⟨env,H⟩ (.on m (.e3 d2 y off))).map (dy d x H'):=by
 rw[AK hm,AK hm,S6 a];exact tu fun v=>lB U
theorem akw(hm:m=3\/m=4)(a:d∉cC y)(U:d2≠d) :
  aH gl ⟨env.ins d x,H'⟩ (.on m (.ha d2 y))=(aH gl ⟨env,H⟩ (.on m (.ha d2 y))).map (dy d x H'):=by
 rw[AL hm,AL hm,S6 a];exact tu fun v=>lB U
theorem akx{ag:Bool}(hm:m=3\/((m=1\/m=2)/\x.eV=false/\∀cs,env.get d≠some (.b cs)))(a:d∉cC y)(U:d2≠d) :
  aH gl ⟨env.ins d x,H'⟩ (.on m (.ld d2 y n ag))=(aH gl ⟨env,H⟩ (.on m (.ld d2 y n ag))).map (dy d x H'):=by
 have key:∀p,eo gl env y=some p->ew env y=m->bC ⟨env.ins d x,H'⟩ n p=bC ⟨env,H⟩ n p:=by
  intro p ao hk;rcases hm with rfl|⟨hm,ah,aA⟩
  ·rcases S3 (gl:=gl) hk with h|⟨cs,h⟩
   ·rw[h]at ao;cases ao
   ·rw[h]at ao;simp at ao;subst ao;rfl
  ·obtain⟨t,off,h⟩:=w3 (gl:=gl) (by rw[hk];exact hm);rw[h]at ao;simp at ao;subst ao;exact S5 ah aA
 by_cases hk:ew env y=m
 ·rw[kS (s:=⟨env.ins d x,H'⟩) (by simp only[fG,u9 a,hk]),kS (s:=⟨env,H⟩) (by simp only[fG,hk])];simp only[aH,w2 a];cases ao:eo gl env y with
  |none=>rfl|some p =>
   simp only[aKh,key p ao hk];refine tu fun cs=>?_;split
   ·exact lB U
   ·split
    ·exact lB U
    ·rfl
 ·rw[kT (s:=⟨env.ins d x,H'⟩) (by simp only[fG,u9 a];exact hk),kT (s:=⟨env,H⟩) (by simp only[fG];exact hk)];rfl
theorem aky{e sz:Nat}(hm:m=1\/m=2)(ah:x.eV=false)(aA:∀cs,env.get d≠some (.b cs))(a:d∉cC y)(U:d2≠d) :
  aH gl ⟨env.ins d x,H'⟩ (.on m (.iv d2 y e sz))=(aH gl ⟨env,H⟩ (.on m (.iv d2 y e sz))).map (dy d x H'):=by
 by_cases hk:ew env y=m
 ·rw[kS (s:=⟨env.ins d x,H'⟩) (by simp only[fG,u9 a,hk]),kS (s:=⟨env,H⟩) (by simp only[fG,hk])];simp only[aH,w2 a];obtain⟨t,off,h⟩:=w3 (env:=env) (gl:=gl) (y:=y) (by rw[hk];exact hm);simp only[h,aKh,S5 (H:=H) (H':=H') ah aA];refine tu fun cs=>?_;split
  ·rw[Lx (H:=H) ah aA];cases bz ⟨env,H⟩ _ (.ee t off)with
   |none=>rfl|some s=>exact S1 U
  ·exact lB U
  ·rfl
 ·rw[kT (s:=⟨env.ins d x,H'⟩) (by simp only[fG,u9 a];exact hk),kT (s:=⟨env,H⟩) (by simp only[fG];exact hk)];rfl
theorem akz{v:aI}(hm:m=1\/m=2)(ah:x.eV=false)(aA:∀cs,env.get d≠some (.b cs))(a:d∉cC y)(b:d∉cC v) :
  aH gl ⟨env.ins d x,H'⟩ (.on m (.st n y v))=(aH gl ⟨env,H⟩ (.on m (.st n y v))).map (dy d x H'):=by
 by_cases hk:ew env y=m
 ·rw[kS (s:=⟨env.ins d x,H'⟩) (by simp only[fG,u9 a,hk]),kS (s:=⟨env,H⟩) (by simp only[fG,hk])];simp only[aH,w2 a,u7 b];obtain⟨t,off,h⟩:=w3 (env:=env) (gl:=gl) (y:=y) (by rw[hk];exact hm);simp only[h,aKh];refine tu fun u=>?_;split
  ·exact Lx ah aA
  ·rfl
 ·rw[kT (s:=⟨env.ins d x,H'⟩) (by simp only[fG,u9 a];exact hk),kT (s:=⟨env,H⟩) (by simp only[fG];exact hk)];rfl
theorem akA{v:Nat}(hm:m=1\/m=2)(ah:x.eV=false)(aA:∀cs,env.get d≠some (.b cs))(a:d∉cC y)(b:v≠d) :
  aH gl ⟨env.ins d x,H'⟩ (.on m (.hP y v))=(aH gl ⟨env,H⟩ (.on m (.hP y v))).map (dy d x H'):=by
 by_cases hk:ew env y=m
 ·rw[kS (s:=⟨env.ins d x,H'⟩) (by simp only[fG,u9 a,hk]),kS (s:=⟨env,H⟩) (by simp only[fG,hk])];simp only[aH,w2 a,qv b];obtain⟨t,off,h⟩:=w3 (env:=env) (gl:=gl) (y:=y) (by rw[hk];exact hm);simp only[h,aKh];split
  ·rename_i e sz xs g;rw[lB (H:=H) b];cases ao:(⟨env,H⟩:an).put v (.list none sz xs)with
   |none=>rfl|some s =>
    simp only[aKk,aKh];refine aku ah fun cs c=>?_;simp only[an.put]at ao;split at ao
    ·simp only[Option.some.injEq]at ao;rw[<-ao,Env.hp,if_neg (Ne.symm b)]at c;exact aA cs c
    ·cases ao
  ·rfl
 ·rw[kT (s:=⟨env.ins d x,H'⟩) (by simp only[fG,u9 a];exact hk),kT (s:=⟨env,H⟩) (by simp only[fG];exact hk)];rfl
theorem S7(ah:x.gy=false)(aA:∀u off,env.get d≠some (.a u off))(az:env.dQ):lT (env.ins d x) t=lT env t:=by
 rw[Bool.eq_iff_iff];simp only[lT,List.any_eq_true];constructor
 ·rintro⟨p,ao,b⟩;rcases Env.Rw ao with rfl|ao
  ·cases x with
   |a u off=>simp[cW.gy]at ah|_=>simp at b
  ·exact⟨p,ao,b⟩
 ·rintro⟨p,ao,b⟩;obtain⟨k,e⟩:=p;cases e with
  |a u off =>
   have c:=Env.get_of_mem az ao;have hk:k≠d:=by rintro rfl;exact aA _ _ c
   exact⟨(k,.a u off),Env.se (by rw[qv hk];exact c),b⟩
  |_=>simp at b
end
def dI(env:Env)(t:Nat):Option cW:=match Env.get env t with
 |some (.b _)=>some (.b [])|e=>e
def et(env:Env):List (Nat×cW)->Env
 |[]=>env|(t,x)::us=>et (env.ins t x) us
structure lC(W:List Nat)(k:Nat)(env:Env)(us:List (Nat×cW)):Prop where
 mem:∀p∈us,p.1∈W
 box:∀p∈us,p.2.eV=true->k=2/\gy env p.1=false
 put:∀p∈us,p.2.eV=false->eH env p.1=true
 eo:∀p∈us,p.2.gy=true->k=1
 one:us.length<=1\/∀p∈us,p.2.gy=false/\p.2.eV=false
def AN(env:Env)(p:List (Nat×cW)×List ax):an:=⟨et env p.1,p.2⟩
def lD(W:List Nat)(k:Nat)(env env2:Env)(X Y:Option an):Prop :=
 ∃iB:Option (List (Nat×cW)×List ax),(∀p,iB=some p->lC W k env p.1)/\X=iB.map (AN env)/\Y=iB.map (AN env2)
section
variable {gl:cp}{env env2:Env}{H H':List ax}{W:List Nat}{k:Nat}
variable {t:Nat}
theorem qw(h:dI env2 t=dI env t):Env.get env2 t=Env.get env t\/∃cs cs',Env.get env t=some (.b cs)/\Env.get env2 t=some (.b cs'):=by
 unfold dI at h;split at h
 ·grind
 ·grind
variable {y:aI}
theorem l3(h:∀t∈cC y,dI env2 t=dI env t):bg gl env2 y=bg gl env y:=by
 cases y<;>simp only[bg];rename_i n;rcases qw (h n (by simp[cC]))with h|⟨cs,a,b,U⟩
 ·rw[h]
 ·rw[b,U]
theorem yE:∀{ys:List aI},(∀t∈oU ys,dI env2 t=dI env t)->eG gl env2 ys=eG gl env ys
 |[],_=>rfl|y::ys,h=>by
  simp only[eG,l3 (y:=y) fun t a=>h t (by simp[oU,a]),yE (ys:=ys) fun t a=>h t (by simp[oU,a])]
variable {n:Nat}
theorem akB{y:Option aI}(h:∀t∈AJ y,dI env2 t=dI env t):hC gl env2 n y=hC gl env n y:=by
 cases y with
 |none=>rfl|some y=>simp only[hC,l3 (y:=y) h]
theorem S8:∀{c:List (Nat×Nat×aI)}{z:List AV},(∀t∈yC c,dI env2 t=dI env t)->nS gl env2 z c=nS gl env z c
 |[],_,_=>rfl|(a,b,y)::c,z,h=>by
  have e:=l3 (gl:=gl) (y:=y) (env:=env) (env2:=env2) fun t d=>h t (by simp[yC,d]);simp only[nS,e];split
  ·split
   ·exact S8 fun t d=>h t (by simp[yC,d])
   ·rfl
  ·rfl
theorem AO(h:∀t∈cC y,dI env2 t=dI env t):eo gl env2 y=eo gl env y:=by
 cases y<;>simp only[eo];rename_i n;rcases qw (h n (by simp[cC]))with h|⟨cs,a,b,U⟩
 ·rw[h]
 ·rw[b,U]
theorem Ly(h:∀t∈cC y,dI env2 t=dI env t):ew env2 y=ew env y:=by
 cases y<;>simp only[ew];rename_i n;rcases qw (h n (by simp[cC]))with h|⟨cs,a,b,U⟩
 ·rw[h]
 ·rw[b,U]
theorem tv(h:dI env2 t=dI env t):eH env2 t=eH env t:=by
 unfold eH;rcases qw h with h|⟨cs,a,b,U⟩
 ·rw[h]
 ·rw[b,U]
theorem S9(h:dI env2 t=dI env t):gy env2 t=gy env t:=by
 unfold gy;rcases qw h with h|⟨cs,a,b,U⟩
 ·rw[h]
 ·rw[b,U]
theorem eL:lD W k env env2 none none:=⟨none,by simp,rfl,rfl⟩
theorem w4{α:Type}{o:Option α}{f b:α->Option an}(h:∀a,lD W k env env2 (f a) (b a)):lD W k env env2 (o.bind f) (o.bind b):=by
 cases o with
 |none=>exact eL|some a=>exact h a
variable {y:AV}
theorem lE(h:dI env2 t=dI env t)(a:t∈W):lD W k env env2 ((⟨env,H⟩:an).put t y) ((⟨env2,H⟩:an).put t y):=by
 unfold an.put;rw[tv h];by_cases hk:eH env t=true
 ·rw[if_pos hk,if_pos hk];exact⟨some ([(t,.v y)],H),by intro p ao;cases ao;exact⟨by simpa using a,by simp[cW.eV],by simpa using fun _=>hk,by simp[cW.gy],.inl (by simp)⟩,rfl,rfl⟩
 ·rw[if_neg hk,if_neg hk];exact eL
theorem GA:lD W k env env2 (some ⟨env,H⟩) (some ⟨env2,H⟩) :=
 ⟨some ([],H),by intro p ao;cases ao;exact⟨by simp,by simp,by simp,by simp,.inl (by simp)⟩,rfl,rfl⟩
theorem Lz{t:Option Nat}(h:∀u,t=some u->dI env2 u=dI env u/\u∈W):lD W k env env2 ((⟨env,H⟩:an).fr t y) ((⟨env2,H⟩:an).fr t y):=by
 cases t with
 |none=>exact GA|some t=>exact lE (h t rfl).1 (h t rfl).2
variable {u:Nat}
theorem Ta{z:AV}(h:dI env2 t=dI env t)(b:t∈W)(U:dI env2 u=dI env u)(c:u∈W)(cc:u≠t) :
  lD W k env env2 (((⟨env,H⟩:an).put t y).bind fun s=>s.put u z) (((⟨env2,H⟩:an).put t y).bind fun s=>s.put u z):=by
 unfold an.put;rw[tv h];by_cases hk:eH env t=true
 ·rw[if_pos hk,if_pos hk];simp only[aKh];rw[tt cc,tt cc,tv U];by_cases a:eH env u=true
  ·rw[if_pos a,if_pos a];refine⟨some ([(t,.v y),(u,.v z)],H),?_,rfl,rfl⟩;intro p ao;cases ao;refine⟨by simp[b,c],?_,?_,?_,.inr ?_⟩
   ·intro p ao;simp at ao;rcases ao with rfl|rfl<;>simp[cW.eV]
   ·grind
   ·intro p ao;simp at ao;rcases ao with rfl|rfl<;>simp[cW.gy]
   ·intro p ao;simp at ao;rcases ao with rfl|rfl<;>simp[cW.gy,cW.eV]
  ·rw[if_neg a,if_neg a];exact eL
 ·rw[if_neg hk,if_neg hk];exact eL
variable {off:Nat}
theorem C4(h:dI env2 t=dI env t)(a:t∈W)(b:k=1) :
  lD W k env env2 (if eH env t=true then some ⟨env.ins t (.a u off),H⟩else none) (if eH env2 t=true then some ⟨env2.ins t (.a u off),H⟩else none):=by
 rw[tv h];by_cases hk:eH env t=true
 ·rw[if_pos hk,if_pos hk];exact⟨some ([(t,.a u off)],H),by intro p ao;cases ao;exact⟨by simpa using a,by simp[cW.eV],by simpa using fun _=>hk,by simp[b],.inl (by simp)⟩,rfl,rfl⟩
 ·rw[if_neg hk,if_neg hk];exact eL
theorem Tb{cs:List AV}(h:dI env2 t=dI env t)(a:t∈W)(cq:lT env2 t=lT env t)(b:k=2):lD W k env env2 ((⟨env,H⟩:an).lh t cs) ((⟨env2,H⟩:an).lh t cs):=by
 unfold an.lh;rw[S9 h,cq];by_cases hk:(lT env t||gy env t)=true
 ·rw[if_pos hk,if_pos hk];exact eL
 ·rw[if_neg hk,if_neg hk];simp only[Bool.or_eq_true,not_or,Bool.not_eq_true]at hk;exact⟨some ([(t,.b cs)],H),by intro p ao;cases ao;exact⟨by simpa using a,by simpa using fun _=>⟨b,hk.2⟩,by simp[cW.eV],by simp[cW.gy],.inl (by simp)⟩,rfl,rfl⟩
structure Alike(o:cz)(env env2:Env):Prop where
 rd:∀t∈dn o,dI env2 t=dI env t
 wr:∀t∈dz o,dI env2 t=dI env t
 aE:br o=2->∀t∈dz o,lT env2 t=lT env t
 ee:br o=7->∀t cs,env.get t=some (.b cs)↔env2.get t=some (.b cs)
variable {o:cz}
theorem e8(h:iA o=some t):t∈dz o:=by simp[dz,h]
theorem C5(h:t∈rr o):t∈dz o:=by simp[dz,h]
theorem akC(hk:br o≠3/\br o≠6/\br o≠9)(x:∀m r,o≠.on m r)(h:Alike o env env2):lD (dz o) (br o) env env2 (aH gl ⟨env,H⟩ o) (aH gl ⟨env2,H⟩ o):=by
 cases o
 case on m r=>exact absurd rfl (x m r)
 case ev=>exact eL
 case hB=>exact eL
 case lg=>exact eL
 case my=>exact eL
 case lS=>exact eL
 case nc=>exact eL
 case bad=>simp[br]at hk
 case ld=>simp[br]at hk
 case iv=>simp[br]at hk
 case st=>simp[br]at hk
 case hP=>simp[br]at hk
 case sb=>simp[br]at hk
 case lf b n y v =>
  have c:=l3 (gl:=gl) (y:=y) (env:=env) (env2:=env2) fun t a=>h.rd t (by simp[dn,a]);have U:=l3 (gl:=gl) (y:=v) (env:=env) (env2:=env2) fun t a=>h.rd t (by simp[dn,a]);simp only[aH,c,U];cases pv b n H (bg gl env y) (bg gl env v)with
  |none=>exact eL|some H'=>exact GA
 case pn d2 y =>
  have g:=h.rd y (by simp[dn]);have hd:=h.wr d2 (e8 rfl);simp only[aH];rcases qw g with e|⟨cs,l,p,q⟩
  ·rw[e];split
   ·split
    ·exact eL
    ·rename_i cc;exact Ta g (C5 (by simp[rr])) hd (e8 rfl) cc
   ·exact lE hd (e8 rfl)
   ·exact eL
  ·rw[p,q];exact eL
 case ext d2 y i =>
  have g:=h.rd y (by simp[dn]);have hd:=h.wr d2 (e8 rfl);simp only[aH];rcases qw g with e|⟨cs,l,p,q⟩
  ·rw[e];split
   ·exact w4 fun v=>lE hd (e8 rfl)
   ·exact eL
  ·rw[p,q];exact eL
 case app d2 u y e sz =>
  have g:=h.rd u (by simp[dn]);have hd:=h.wr d2 (e8 rfl);have aA:=l3 (gl:=gl) (y:=y) (env:=env) (env2:=env2) fun t a=>h.rd t (by simp[dn,a]);simp only[aH,aA];rcases qw g with e|⟨cs,l,p,q⟩
  ·rw[e];split
   ·split
    ·rename_i d;exact Ta g (C5 (by simp[rr])) hd (e8 rfl) d.2.2.2.1
    ·exact eL
   ·split
    ·exact lE hd (e8 rfl)
    ·exact eL
   ·exact eL
  ·rw[p,q];exact eL
 case qh ks m kk v =>
  have g:=h.rd v (by simp[dn]);have A:=h.wr v (C5 (by simp[rr]));have c:=l3 (gl:=gl) (y:=m) (env:=env) (env2:=env2) fun t a=>h.rd t (by simp[dn,a]);have U:=l3 (gl:=gl) (y:=kk) (env:=env) (env2:=env2) fun t a=>h.rd t (by simp[dn,a]);simp only[aH,c,U];rcases qw g with e|⟨cs,l,p,q⟩
  ·rw[e];split
   ·split
    ·split
     ·exact lE A (C5 (by simp[rr]))
     ·exact eL
    ·exact eL
   ·exact eL
  ·rw[p,q];split
   ·rename_i d;simp at d
   ·split
    ·rename_i d;simp at d
    ·exact eL
 case ha d2 y =>
  have hd:=h.wr d2 (e8 rfl);cases y with
  |t n =>
   have g:=h.rd n (by simp[dn,cC]);simp only[aH];rcases qw g with e|⟨cs,l,p,q⟩
   ·rw[e];split
    ·exact C4 hd (e8 rfl) rfl
    ·exact C4 hd (e8 rfl) rfl
    ·exact lE hd (e8 rfl)
    ·exact lE hd (e8 rfl)
    ·exact eL
   ·rw[p,q];exact C4 hd (e8 rfl) rfl
  |_=>exact eL
 case e3 d2 y off =>
  have hd:=h.wr d2 (e8 rfl);have c:=AO (gl:=gl) (y:=y) (env:=env) (env2:=env2) fun t a=>h.rd t (by simpa[dn]using a);simp only[aH,c];split
  ·exact C4 hd (e8 rfl) rfl
  ·exact lE hd (e8 rfl)
  ·split
   ·exact lE hd (e8 rfl)
   ·exact eL
  ·exact eL
 case nQ d2 y n sz i =>
  have hd:=h.wr d2 (e8 rfl);have c:=AO (gl:=gl) (y:=y) (env:=env) (env2:=env2) fun t a=>h.rd t (by simp[dn,a]);have U:=l3 (gl:=gl) (y:=i) (env:=env) (env2:=env2) fun t a=>h.rd t (by simp[dn,a]);simp only[aH,c,U,tv hd];split
  ·rename_i t o C j _ _;by_cases d:0<=j/\j<n/\eH env d2=true
   ·rw[if_pos d,if_pos d];have:=C4 (H:=H) (u:=t) (off:=o+j.toNat*sz) hd (e8 (o:=.nQ d2 y n sz i) rfl) (rfl:br (.nQ d2 y n sz i)=1);rw[if_pos d.2.2,if_pos (by rw[tv hd];exact d.2.2)]at this;exact this
   ·rw[if_neg d,if_neg d];exact eL
  ·split
   ·exact lE hd (e8 rfl)
   ·exact eL
  ·split
   ·exact lE hd (e8 rfl)
   ·exact eL
  ·exact eL
 case alloc d2 z=>exact Tb (h.wr d2 (e8 rfl)) (e8 rfl) (h.aE rfl d2 (e8 rfl)) rfl
 case box d2 y =>
  have c:=l3 (gl:=gl) (y:=y) (env:=env) (env2:=env2) fun t a=>h.rd t (by simpa[dn]using a);simp only[aH,c];refine w4 fun v=>?_;split
  ·exact Tb (h.wr d2 (e8 rfl)) (e8 rfl) (h.aE rfl d2 (e8 rfl)) rfl
  ·exact eL
 case ps ks d2 m kk =>
  have c:=l3 (gl:=gl) (y:=m) (env:=env) (env2:=env2) fun t a=>h.rd t (by simp[dn,a]);have U:=l3 (gl:=gl) (y:=kk) (env:=env) (env2:=env2) fun t a=>h.rd t (by simp[dn,a]);simp only[aH,c,U];split
  ·split
   ·split
    ·exact Lz fun u s=>⟨h.wr u (e8 (by simpa[iA]using s)),e8 (by simpa[iA]using s)⟩
    ·exact eL
   ·exact eL
  ·exact eL
 case pr ks m kk v =>
  have c:=l3 (gl:=gl) (y:=m) (env:=env) (env2:=env2) fun t a=>h.rd t (by simp[dn,a]);have U:=l3 (gl:=gl) (y:=kk) (env:=env) (env2:=env2) fun t a=>h.rd t (by simp[dn,a]);have B:=l3 (gl:=gl) (y:=v) (env:=env) (env2:=env2) fun t a=>h.rd t (by simp[dn,a]);simp only[aH,c,U,B];split
  ·split
   ·split
    ·exact GA
    ·exact eL
   ·exact eL
  ·exact eL
 all_goals
  have U:=fun t a=>h.wr t (e8 (t:=t) a);simp only[iA,Option.some.injEq,forall_eq']at U;have w:=h.rd;simp only[dn]at w;simp(disch:=(intro t a;apply w;simp[a])) only[aH,l3 (env:=env) (env2:=env2),yE (env:=env) (env2:=env2),akB (env:=env) (env2:=env2),S8 (env:=env) (env2:=env2),AO (env:=env) (env2:=env2)]
  repeat' (first|exact lE U (e8 rfl)|exact eL|(refine w4 fun _=>?_)|split)
theorem akD(h:∀t cs,env.get t=some (.b cs)↔env2.get t=some (.b cs)):bC ⟨env2,H⟩ n (.ee t off)=bC ⟨env,H⟩ n (.ee t off):=by
 simp only[bC];cases a:Env.get env t with
 |none=>grind|some e=>cases e with
  |b cs=>rw[(h t cs).1 a]|_=>grind
variable {m d:Nat}{y:aI}
theorem akE{ag:Bool}(hk:br (.on m (.ld d y n ag))≠9)(h:Alike (.on m (.ld d y n ag)) env env2) :
  lD (dz (.on m (.ld d y n ag))) (br (.on m (.ld d y n ag))) env env2 (aH gl ⟨env,H⟩ (.on m (.ld d y n ag))) (aH gl ⟨env2,H⟩ (.on m (.ld d y n ag))):=by
 have b:∀t∈cC y,dI env2 t=dI env t:=fun t e=>h.rd t (by simpa[dn]using e);have c:=Ly b;by_cases hm:ew env y=m
 ·rw[kS (s:=⟨env,H⟩) (by simp only[fG,hm]),kS (s:=⟨env2,H⟩) (by simp only[fG,c,hm])];simp only[aH,AO b];have key:∀p,eo gl env y=some p->bC ⟨env2,H⟩ n p=bC ⟨env,H⟩ n p:=by
   intro p ao;cases p with
   |ao id off=>rfl|jf cs=>rfl|ee t off =>
    refine akD (h.ee ?_);simp only[br]at hk ⊢;have a:m=1\/m=2:=by
     rw[<-hm];cases y<;>simp only[eo,reduceCtorEq]at ao
     ·rename_i u;simp only[ew];split at ao<;>simp_all
     ·split at ao<;>simp at ao
    rcases a with rfl|rfl<;>simp
  cases ao:eo gl env y with
  |none=>exact eL|some p =>
   simp only[aKh,key p ao];refine w4 fun cs=>?_;split
   ·exact lE (h.wr d (e8 rfl)) (e8 rfl)
   ·split
    ·exact lE (h.wr d (e8 rfl)) (e8 rfl)
    ·exact eL
 ·rw[kT (s:=⟨env,H⟩) (by simp only[fG];exact hm),kT (s:=⟨env2,H⟩) (by simp only[fG,c];exact hm)];exact eL
theorem LB{id:Nat}{vs:List AV}:∃a:Option (List ax),∀env,bz ⟨env,H⟩ vs (.ao id off)=a.map fun H'=>⟨env,H'⟩:=by
 simp only[bz];cases H[id]? with
 |none=>exact⟨none,fun _=>rfl⟩|some o =>
  cases o with
  |cells cs =>
   by_cases h:off+vs.length<=cs.length
   ·exact⟨some (H.set id (.cells (setCells cs off vs))),fun _=>by simp[h]⟩
   ·exact⟨none,fun _=>by simp[h]⟩
  |buf e cs =>
   by_cases h:off+vs.length<=cs.length
   ·exact⟨some (H.set id (.buf e (setCells cs off vs))),fun _=>by simp[h]⟩
   ·exact⟨none,fun _=>by simp[h]⟩
  |_=>exact⟨none,fun _=>rfl⟩
theorem LC(aA:(∃d y e sz,o=.iv d y e sz)\/(∃n y v,o=.st n y v)\/∃y v,o=.hP y v)(hk:br (.on m o)=4)(h:Alike (.on m o) env env2) :
  lD (dz (.on m o)) (br (.on m o)) env env2 (aH gl ⟨env,H⟩ (.on m o)) (aH gl ⟨env2,H⟩ (.on m o)):=by
 have q:m=4:=by
  rcases aA with⟨d,y,e,sz,rfl⟩|⟨n,y,v,rfl⟩|⟨y,v,rfl⟩ <;>
  ·simp only[br]at hk;split at hk
   ·assumption
   ·split at hk<;>cases hk
 subst q;have l:∀t∈cC (fG o),dI env2 t=dI env t:=fun t i=>h.rd t (by
  rcases aA with⟨d,y,e,sz,rfl⟩|⟨n,y,v,rfl⟩|⟨y,v,rfl⟩<;>simp only[fG]at i<;>simp[dn,i])
 have p:=Ly l;by_cases hm:ew env (fG o)=4
 ·rw[kS (s:=⟨env,H⟩) (by simp only[hm]),kS (s:=⟨env2,H⟩) (by simp only[p,hm])];obtain⟨id,off,aE⟩:=S4 (gl:=gl) hm;have b:eo gl env2 (fG o)=some (.ao id off):=by rw[AO l,aE]
  rcases aA with⟨d,y,e,sz,rfl⟩|⟨n,y,v,rfl⟩|⟨y,v,rfl⟩
  ·simp only[fG]at aE b;simp only[aH,aE,b,aKh];have r:bC ⟨env2,H⟩ 1 (.ao id off)=bC ⟨env,H⟩ 1 (.ao id off):=rfl;rw[r];refine w4 fun cs=>?_;split
   ·obtain⟨g,a⟩:=LB (H:=H) (id:=id) (off:=off) (vs:=[.list none _ _]);rw[a env,a env2];cases g with
    |none=>exact eL|some H'=>exact lE (h.wr d (e8 rfl)) (e8 rfl)
   ·exact lE (h.wr d (e8 rfl)) (e8 rfl)
   ·exact eL
  ·simp only[fG]at aE b;have w:=l3 (gl:=gl) (y:=v) (env:=env) (env2:=env2) fun t i=>h.rd t (by simp[dn,i]);simp only[aH,aE,b,w,aKh];refine w4 fun u=>?_;split
   ·obtain⟨g,a⟩:=LB (H:=H) (id:=id) (off:=off) (vs:=u.cells.map AV.aW);rw[a env,a env2];cases g with
    |none=>exact eL|some H'=>exact GA
   ·exact eL
  ·simp only[fG]at aE b;have j:=h.rd v (by simp[dn]);simp only[aH,aE,b,aKh];rcases qw j with e|⟨cs,x,z,A⟩
   ·rw[e];split
    ·rename_i B sz xs _;simp only[an.put];rw[tv j];by_cases c:eH env v=true
     ·rw[if_pos c,if_pos c];simp only[aKh];obtain⟨g,a⟩:=LB (H:=H) (id:=id) (off:=off) (vs:=[.list (some B) sz xs]);rw[a,a];cases g with
      |none=>exact eL|some H' =>
       have:=lE (H:=H') (k:=br (.on 4 (.hP y v))) (y:=.list none sz xs) j (C5 (o:=.on 4 (.hP y v)) (by simp[rr]));simp only[an.put]at this;rw[tv j,if_pos c,if_pos c]at this;exact this
     ·rw[if_neg c,if_neg c];exact eL
    ·exact eL
   ·rw[z,A];exact eL
 ·rw[kT (s:=⟨env,H⟩) hm,kT (s:=⟨env2,H⟩) (by simp only[p];exact hm)];exact eL
theorem Td{a:Bool}(h:∀t∈cC y,dI env2 t=dI env t):ru gl env2 m y off a=ru gl env m y off a:=by
 simp only[ru,Ly h,AO h]
theorem akG(hm:m=3\/m=4)(h:Alike (.on m (.e3 d y off)) env env2) :
  lD (dz (.on m (.e3 d y off))) (br (.on m (.e3 d y off))) env env2 (aH gl ⟨env,H⟩ (.on m (.e3 d y off))) (aH gl ⟨env2,H⟩ (.on m (.e3 d y off))):=by
 rw[AK hm,AK hm,Td fun t a=>h.rd t (by simpa[dn]using a)];exact w4 fun v=>lE (h.wr d (e8 rfl)) (e8 rfl)
theorem akH(hm:m=3\/m=4)(h:Alike (.on m (.ha d y)) env env2) :
  lD (dz (.on m (.ha d y))) (br (.on m (.ha d y))) env env2 (aH gl ⟨env,H⟩ (.on m (.ha d y))) (aH gl ⟨env2,H⟩ (.on m (.ha d y))):=by
 rw[AL hm,AL hm,Td fun t a=>h.rd t (by simpa[dn]using a)];exact w4 fun v=>lE (h.wr d (e8 rfl)) (e8 rfl)
theorem AP(h:¬(if m=3\/m=4 then 0 else 9)=9):m=3\/m=4:=by
 split at h
 ·assumption
 ·exact absurd rfl h
theorem yF(hk:br o≠3/\br o≠6/\br o≠9)(h:Alike o env env2):lD (dz o) (br o) env env2 (aH gl ⟨env,H⟩ o) (aH gl ⟨env2,H⟩ o):=by
 by_cases b:∃m a,o=.on m a
 ·obtain⟨m,a,rfl⟩:=b;cases a
  case ld d y n ag=>exact akE hk.2.2 h
  case e3 d y off=>exact akG (AP hk.2.2) h
  case ha d y=>exact akH (AP hk.2.2) h
  case iv d y e sz =>
   refine LC (.inl ⟨_,_,_,_,rfl⟩) ?_ h;simp only[br]at hk ⊢;split at hk
   ·rename_i hm;rw[if_pos hm]
   ·split at hk<;>simp at hk
  case st n y v =>
   refine LC (.inr (.inl ⟨_,_,_,rfl⟩)) ?_ h;simp only[br]at hk ⊢;split at hk
   ·rename_i hm;rw[if_pos hm]
   ·split at hk<;>simp at hk
  case hP y v =>
   refine LC (.inr (.inr ⟨_,_,rfl⟩)) ?_ h;simp only[br]at hk ⊢;split at hk
   ·rename_i hm;rw[if_pos hm]
   ·split at hk<;>simp at hk
  all_goals simp[br]at hk
 ·exact akC hk (fun m a e=>b ⟨m,a,e⟩) h
end
section
variable {P:Program}{gl:cp}{D:bc}{env env2:Env}{H H':List ax}
def mK(gl:cp)(D:bc)(s:an):cz->Option an
 |.ev d f xs=>(eG gl s.env xs).bind fun vs=>if(vs.map AV.aW).all AV.arg=true then(D f (vs.map AV.aW)).bind fun r=>s.fr d r else none|o=>aH gl s o
def w5(P:Program)(gl:cp)(D:bc)(env:Env):cz->Prop
 |.ev _ f xs=>∀vs r,eG gl env xs=some vs->D f (vs.map AV.aW)=some r->aF P gl f (vs.map AV.aW) r|_=>True
def gn(k:Nat):Bool:=k==0||k==1||k==2||k==3||k==7
def w6(k:Nat):Bool:=k==0||k==1||k==2||k==4||k==5||k==6||k==7
variable {s:an}{o:cz}
theorem GB{K:an->Prop}(hk:(match o with|.ev _ _ _|.hB _ _ _|.lg _ _ _|.my _ _ _ _|.lS _ _ _|.nc _ _=>false|_=>true)=true) :
  c8 P gl D s K o↔∃s1,aH gl s o=some s1/\K s1:=by
 have a:(match aH gl s o with|some s'=>K s'|none=>False)↔∃s1,aH gl s o=some s1/\K s1:=by grind
 cases o<;>first|exact a|simp at hk
theorem yG{K:an->Prop}(hk:gn (br o)=true\/br o=5):c8 P gl D s K o↔w5 P gl D s.env o/\∃s1,mK gl D s o=some s1/\K s1:=by
 by_cases a:∃d f xs,o=.ev d f xs
 ·obtain⟨d,f,xs,rfl⟩:=a;simp only[c8,mK,w5];cases he:eG gl s.env xs with
  |none=>simp|some vs=>grind
 ·have b:mK gl D s o=aH gl s o:=by cases o<;>first|rfl|exact absurd ⟨_,_,_,rfl⟩ a
  have U:w5 P gl D s.env o↔True:=by cases o<;>first|exact Iff.rfl|exact absurd ⟨_,_,_,rfl⟩ a
  rw[b,U,true_and];refine GB ?_;cases o<;>first|rfl|exact absurd ⟨_,_,_,rfl⟩ a|(simp[gn,br]at hk)
theorem akI{d:Nat}{x:cW}(az:env.dQ)(hk:gn (br o)=true)(b:d∉dn o)(h:d∉dz o)
  (U:br o=2->x.gy=false/\∀u off,env.get d≠some (.a u off))(j:br o=3\/br o=7->x.eV=false/\∀cs,env.get d≠some (.b cs)) :
  mK gl D ⟨env.ins d x,H'⟩ o=(mK gl D ⟨env,H⟩ o).map (dy d x H'):=by
 by_cases p:∃q f xs,o=.ev q f xs
 ·obtain⟨q,f,xs,rfl⟩:=p;simp only[mK];rw[Gy (by simpa[dn]using b)];refine tu fun vs=>?_;split
  ·exact tu fun r=>aks fun u w=>oV h (by simpa[iA]using w)
  ·rfl
 ·have t:∀s,mK gl D s o=aH gl s o:=fun s=>by cases o<;>first|rfl|exact absurd ⟨_,_,_,rfl⟩ p
  rw[t,t];by_cases k:∃m i,o=.on m i
  ·obtain⟨m,i,rfl⟩:=k;cases i
   case ld a y n ag =>
    have A:a≠d:=oV h rfl;have l:d∉cC y:=by simpa[dn]using b
    refine akx ?_ l A;simp only[br]at hk j;split at hk
    ·left;assumption
    ·split at hk
     ·simp[gn]at hk
     ·split at hk
      ·grind
      ·simp[gn]at hk
   case e3 a y off=>exact akv (AP fun e=>by simp only[br]at hk;rw[e]at hk;simp[gn]at hk) (by simpa[dn]using b) (oV h rfl)
   case ha a y=>exact akw (AP fun e=>by simp only[br]at hk;rw[e]at hk;simp[gn]at hk) (by simpa[dn]using b) (oV h rfl)
   case iv a y e sz =>
    have hm:m≠4/\(m=1\/m=2):=by
     simp only[br]at hk;split at hk
     ·simp[gn]at hk
     ·split at hk
      ·exact⟨by assumption,by assumption⟩
      ·simp[gn]at hk
    obtain⟨c,g⟩:=j (.inl (by simp[br,hm.1,hm.2]));exact aky hm.2 c g (by simpa[dn]using b) (oV h rfl)
   case st n y v =>
    have hm:m≠4/\(m=1\/m=2):=by
     simp only[br]at hk;split at hk
     ·simp[gn]at hk
     ·split at hk
      ·exact⟨by assumption,by assumption⟩
      ·simp[gn]at hk
    obtain⟨c,g⟩:=j (.inl (by simp[br,hm.1,hm.2]));simp only[dn,aKj,not_or]at b;exact akz hm.2 c g b.1 b.2
   case hP y v =>
    have hm:m≠4/\(m=1\/m=2):=by
     simp only[br]at hk;split at hk
     ·simp[gn]at hk
     ·split at hk
      ·exact⟨by assumption,by assumption⟩
      ·simp[gn]at hk
    obtain⟨c,g⟩:=j (.inl (by simp[br,hm.1,hm.2]));simp only[dn,List.mem_cons,not_or]at b;exact akA hm.2 c g b.2 (fun e=>b.1 e.symm)
   all_goals simp[br,gn]at hk
  ·by_cases ae:(∃a z,o=.alloc a z)\/∃a y,o=.box a y
   ·have key:∀(a:Nat)(cs:List AV),a≠d->x.gy=false->(∀u off,env.get d≠some (.a u off))->(⟨env.ins d x,H'⟩:an).lh a cs=((⟨env,H⟩:an).lh a cs).map (dy d x H'):=by
     intro a cs cc ah aA;have cq:gy (env.ins d x) a=gy env a:=by simp only[gy,qv cc]
     simp only[an.lh,S7 ah aA az,cq];split
     ·rfl
     ·exact C3 cc
    rcases ae with⟨a,z,rfl⟩|⟨a,y,rfl⟩
    ·obtain⟨c,g⟩:=U rfl;exact key a z (oV h rfl) c g
    ·obtain⟨c,g⟩:=U rfl;simp only[aH];rw[u7 (by simpa[dn]using b)];refine tu fun v=>?_;split
     ·exact key a _ (oV h rfl) c g
     ·rfl
   ·refine akt ?_ (fun m i e=>k ⟨m,i,e⟩) b h;cases o<;>first|(simp[br];done)|exact absurd ⟨_,_,rfl⟩ k|exact absurd (.inl ⟨_,_,rfl⟩) ae|exact absurd (.inr ⟨_,_,rfl⟩) ae|(simp[br,gn]at hk;done)|skip
    all_goals (simp only[br]at hk ⊢;split at hk<;>simp_all[gn])
end
section
variable {P:Program}{gl:cp}{D:bc}{env env2:Env}{H H':List ax}
def nt(H:List ax)(s:an):an:=⟨s.env,H⟩
variable {t:Nat}{y:AV}
theorem hS :(⟨env,H'⟩:an).put t y=((⟨env,H⟩:an).put t y).map (nt H'):=by
 simp only[an.put];split<;>rfl
variable {s:an}
theorem Te :(nt H' s).put t y=(s.put t y).map (nt H'):=hS (H:=s.heap)
theorem akK{y:List AV}:(⟨env,H'⟩:an).lh t y=((⟨env,H⟩:an).lh t y).map (nt H'):=by
 simp only[an.lh];split<;>rfl
theorem akL{t:Option Nat} :(⟨env,H'⟩:an).fr t y=((⟨env,H⟩:an).fr t y).map (nt H'):=by
 cases t with
 |none=>rfl|some t=>exact hS
theorem akM{u:Nat}{z:AV}:((⟨env,H'⟩:an).put t y).bind (fun s=>s.put u z)=(((⟨env,H⟩:an).put t y).bind fun s=>s.put u z).map (nt H'):=by
 rw[hS (H:=H)];cases (⟨env,H⟩:an).put t y with
 |none=>rfl|some s=>exact Te
theorem qx{α:Type}{o:Option α}{f b:α->Option an}(h:∀a,b a=(f a).map (nt H')):o.bind b=(o.bind f).map (nt H'):=by
 cases o with
 |none=>rfl|some a=>exact h a
theorem GC{c:Prop}[Decidable c]{e:Env}:(if c then some (⟨e,H'⟩:an)else none)=(if c then some (⟨e,H⟩:an)else none).map (nt H'):=by split<;>rfl
variable {o:cz}
theorem akN(hk:br o=0\/br o=1\/br o=2)(b:∀m a,o≠.on m a):aH gl ⟨env,H'⟩ o=(aH gl ⟨env,H⟩ o).map (nt H'):=by
 cases o<;>simp only[br,reduceCtorEq,or_self,Nat.reduceEqDiff]at hk
 case on m a=>exact absurd rfl (b m a)
 case ev=>rfl
 case len d2 m y =>
  have hm:m≠2:=by rintro rfl;simp at hk
  simp only[aH,hm,if_false]
  repeat' (first|exact hS|rfl|split)
 case nQ d2 y n sz i =>
  simp only[aH];split
  ·exact GC
  ·split
   ·exact hS
   ·rfl
  ·split
   ·exact hS
   ·rfl
  ·rfl
 case ha d2 y =>
  cases y with
  |t n =>
   simp only[aH];split
   ·exact GC
   ·exact GC
   ·exact hS
   ·exact hS
   ·rfl
  |_=>rfl
 case e3 d2 y off =>
  simp only[aH];split
  ·exact GC
  ·exact hS
  ·split
   ·exact hS
   ·rfl
  ·rfl
 all_goals
  simp only[aH]
  repeat' (first|exact hS|exact akK|exact akM|rfl|(refine qx fun _=>?_)|split)
theorem Tf{n:Nat}{p:lj}(h:∀id off,p≠.ao id off):bC ⟨env,H'⟩ n p=bC ⟨env,H⟩ n p:=by
 cases p with
 |ee t off=>rfl|ao id off=>exact absurd rfl (h id off)|jf cs=>rfl
theorem LD{off:Nat}{vs:List AV}:bz ⟨env,H'⟩ vs (.ee t off)=(bz ⟨env,H⟩ vs (.ee t off)).map (nt H'):=by
 simp only[bz];split
 ·split<;>rfl
 ·rfl
theorem akO{m:Nat}(hk:gn (br (.on m o))=true):aH gl ⟨env,H'⟩ (.on m o)=(aH gl ⟨env,H⟩ (.on m o)).map (nt H'):=by
 have c:¬(if m=3\/m=4 then 0 else 9)=9\/gn (if m=3\/m=4 then 0 else 9)=false:=by
  split
  ·left;simp
  ·right;rfl
 by_cases b:(∃d y off,o=.e3 d y off)\/∃d y,o=.ha d y
 ·rcases b with⟨d,y,off,rfl⟩|⟨d,y,rfl⟩
  ·have hm:=AP (c.resolve_right fun e=>by simp only[br,e]at hk;cases hk);rw[AK hm,AK hm];exact qx fun v=>hS
  ·have hm:=AP (c.resolve_right fun e=>by simp only[br,e]at hk;cases hk);rw[AL hm,AL hm];exact qx fun v=>hS
 by_cases hm:ew env (fG o)=m
 ·rw[kS (s:=⟨env,H'⟩) hm,kS (s:=⟨env,H⟩) hm];cases o
  case e3 d y off=>exact absurd (.inl ⟨_,_,_,rfl⟩) b
  case ha d y=>exact absurd (.inr ⟨_,_,rfl⟩) b
  case ld d2 y n ag =>
   simp only[aH];have key:∀p,eo gl env y=some p->∀id off,p≠.ao id off:=by
    intro p ao id off e;subst e;simp only[br]at hk;have g:m=4:=by
     rw[<-hm];simp only[fG];cases y<;>simp only[eo,reduceCtorEq]at ao
     ·simp only[ew];split at ao<;>simp_all
     ·split at ao<;>simp at ao
    subst g;simp[gn]at hk
   cases ao:eo gl env y with
   |none=>rfl|some p =>
    simp only[aKh,Tf (H:=H) (H':=H') (key p ao)];refine qx fun cs=>?_;split
    ·exact hS
    ·split
     ·exact hS
     ·rfl
  case iv d2 y e sz =>
   have a:m=1\/m=2:=by
    simp only[br]at hk;split at hk
    ·simp[gn]at hk
    ·split at hk
     ·assumption
     ·simp[gn]at hk
   obtain⟨t,off,h⟩:=w3 (gl:=gl) (env:=env) (y:=y) (by simp only[fG]at hm;rw[hm];exact a);simp only[aH,h,aKh];rw[Tf (H:=H) (H':=H') (p:=.ee t off) (by simp)];refine qx fun cs=>?_;split
   ·rw[LD (H:=H)];cases bz ⟨env,H⟩ _ (.ee t off)with
    |none=>rfl|some s=>exact Te
   ·exact hS
   ·rfl
  case st n y v =>
   have a:m=1\/m=2:=by
    simp only[br]at hk;split at hk
    ·simp[gn]at hk
    ·split at hk
     ·assumption
     ·simp[gn]at hk
   obtain⟨t,off,h⟩:=w3 (gl:=gl) (env:=env) (y:=y) (by simp only[fG]at hm;rw[hm];exact a);simp only[aH,h,aKh];refine qx fun u=>?_;split
   ·exact LD
   ·rfl
  case hP y v =>
   have a:m=1\/m=2:=by
    simp only[br]at hk;split at hk
    ·simp[gn]at hk
    ·split at hk
     ·assumption
     ·simp[gn]at hk
   obtain⟨t,off,h⟩:=w3 (gl:=gl) (env:=env) (y:=y) (by simp only[fG]at hm;rw[hm];exact a);simp only[aH,h,aKh];split
   ·rw[hS (H:=H)];cases (⟨env,H⟩:an).put v _ with
    |none=>rfl|some s=>exact LD (H:=s.heap)
   ·rfl
  all_goals simp[br,gn]at hk
 ·rw[kT (s:=⟨env,H'⟩) hm,kT (s:=⟨env,H⟩) hm];rfl
theorem Th(hk:gn (br o)=true):mK gl D ⟨env,H'⟩ o=(mK gl D ⟨env,H⟩ o).map (nt H'):=by
 by_cases c:∃d f xs,o=.ev d f xs
 ·obtain⟨d,f,xs,rfl⟩:=c;simp only[mK];refine qx fun vs=>?_;split
  ·exact qx fun r=>akL
  ·rfl
 ·have g:∀s,mK gl D s o=aH gl s o:=fun s=>by cases o<;>first|rfl|exact absurd ⟨_,_,_,rfl⟩ c
  rw[g,g];by_cases b:∃m a,o=.on m a
  ·obtain⟨m,a,rfl⟩:=b;exact akO hk
  ·refine akN ?_ fun m a e=>b ⟨m,a,e⟩;cases o<;>first|(simp[br];done)|exact absurd ⟨_,_,rfl⟩ b|(simp[br,gn]at hk;done)|skip
   all_goals (simp only[br]at hk ⊢;split at hk<;>simp_all[gn])
theorem Ti{s1:an}(hk:gn (br o)=true)(h:mK gl D s o=some s1):s1.heap=s.heap:=by
 have:=Th (gl:=gl) (D:=D) (env:=s.env) (H:=s.heap) (H':=s.heap) hk;rw[show(⟨s.env,s.heap⟩:an)=s from rfl,h]at this;simp only[aKk,Option.some.injEq]at this;rw[this];rfl
end
section
variable {P:Program}{gl:cp}{D:bc}{env env2:Env}{H H':List ax}
def AQ(X:Option an)(K:an->Prop):Prop:=match X with|some s'=>K s'|none=>False
variable {W:List Nat}{k:Nat}{K K2:an->Prop}
theorem va{X Y:Option an}(h:lD W k env env2 X Y)(c:∀us H',lC W k env us->K ⟨et env us,H'⟩->K2 ⟨et env2 us,H'⟩)
  (ah:AQ X K):AQ Y K2/\∃us H',lC W k env us/\K ⟨et env us,H'⟩:=by
 obtain⟨d,a,U,e⟩:=h;subst U e;cases d with
 |none=>exact ah.elim|some p =>
  obtain⟨us,b⟩:=p;exact⟨c us b (a _ rfl) ah,us,b,a _ rfl,ah⟩
variable {X Y:AV->List ax->Option an}
theorem akP{Z:List ax->Prop}(h:∀r H',lD W k env env2 (X r H') (Y r H'))(b:∀us H',lC W k env us->K ⟨et env us,H'⟩->K2 ⟨et env2 us,H'⟩)
  (ah:jK P gl f xs H fun r H'=>Z H'/\AQ (X r H') K):(jK P gl f xs H fun r H'=>Z H'/\AQ (Y r H') K2)/\∃us H',lC W k env us/\K ⟨et env us,H'⟩:=by
 refine⟨ah.mono fun r H' a=>⟨a.1,(va (h r H') b a.2).1⟩,?_⟩;obtain⟨r,H',a⟩:=ah.2;exact(va (h r H') b a.2).2
theorem GD(h:∀r H',lD W k env env2 (X r H') (Y r H'))(b:∀us H',lC W k env us->K ⟨et env us,H'⟩->K2 ⟨et env2 us,H'⟩)
  (ah:jK P gl f xs H fun r H'=>AQ (X r H') K):(jK P gl f xs H fun r H'=>AQ (Y r H') K2)/\∃us H',lC W k env us/\K ⟨et env us,H'⟩:=by
 refine⟨ah.mono fun r H' a=>(va (h r H') b a).1,?_⟩;obtain⟨r,H',a⟩:=ah.2;exact(va (h r H') b a).2
variable {o:cz}
theorem Tj(h:br o=6):∃d f xs,o=.lS d f xs:=by
 cases o
 case lS d f xs=>exact⟨d,f,xs,rfl⟩
 case len d m y=>simp only[br]at h;split at h<;>cases h
 case on m a =>
  cases a<;>simp only[br]at h;all_goals first|(cases h;done)|(repeat' (first|(cases h;done)|split at h))
 all_goals cases h
theorem yJ(hk:w6 (br o)=true)(h:Alike o env env2)(c:∀us H',lC (dz o) (br o) env us->K ⟨et env us,H'⟩->K2 ⟨et env2 us,H'⟩)
  (bp:c8 P gl D ⟨env,H⟩ K o):c8 P gl D ⟨env2,H⟩ K2 o/\∃us H',lC (dz o) (br o) env us/\K ⟨et env us,H'⟩:=by
 have i:∀d,(∀u,d=some u->iA o=some u)->∀(r:AV)(H':List ax),lD (dz o) (br o) env env2 ((⟨env,H'⟩:an).fr d r) ((⟨env2,H'⟩:an).fr d r) :=
  fun d hd r H'=>Lz fun u a=>⟨h.wr u (e8 (hd u a)),e8 (hd u a)⟩
 cases o
 case ev d f xs =>
  have he:=yE (gl:=gl) (ys:=xs) (env:=env) (env2:=env2) fun t b=>h.rd t (by simpa[dn]using b);simp only[c8]at bp ⊢;rw[he];cases g:eG gl env xs with
  |none=>rw[g]at bp;exact bp.elim|some vs =>
   rw[g]at bp;simp only at bp ⊢;obtain⟨z,U⟩:=bp;cases s:D f (vs.map AV.aW)with
   |none=>rw[s]at U;exact U.elim|some r =>
    rw[s]at U;simp only at U ⊢;obtain⟨A,B⟩:=va (i d (fun u a=>by simpa[iA]using a) r H) c U.2;exact⟨⟨z,U.1,A⟩,B⟩
 case hB d f xs =>
  have he:=yE (gl:=gl) (ys:=xs) (env:=env) (env2:=env2) fun t b=>h.rd t (by simpa[dn]using b);simp only[c8]at bp ⊢;rw[he];cases g:eG gl env xs with
  |none=>rw[g]at bp;exact bp.elim|some vs =>
   rw[g]at bp;exact GD (i d fun u a=>by simpa[iA]using a) c bp
 case lS d f xs =>
  have he:=yE (gl:=gl) (ys:=xs) (env:=env) (env2:=env2) fun t b=>h.rd t (by simpa[dn]using b);simp only[c8]at bp ⊢;rw[he];cases g:eG gl env xs with
  |none=>rw[g]at bp;exact bp.elim|some vs =>
   rw[g]at bp;exact akP (Z:=fun H'=>∃n,H'=H++aKi n .dead) (i d fun u a=>by simpa[iA]using a) c bp
 case lg d x xs =>
  have he:=yE (gl:=gl) (ys:=xs) (env:=env) (env2:=env2) fun t b=>h.rd t (by simp[dn,b]);have ah:=l3 (gl:=gl) (y:=x) (env:=env) (env2:=env2) fun t b=>h.rd t (by simp[dn,b]);simp only[c8]at bp ⊢;rw[he,ah];split at bp
  ·exact GD (i d fun u a=>by simpa[iA]using a) c bp
  ·exact bp.elim
 case my d f u xs =>
  have he:=yE (gl:=gl) (ys:=xs) (env:=env) (env2:=env2) fun t b=>h.rd t (by simp[dn,b]);have a:=h.rd u (by simp[dn]);simp only[c8]at bp ⊢;rw[he];rcases qw a with e|⟨cs,C,E,G⟩
  ·rw[e];split at bp
   ·rename_i v sz ys us F g;refine GD (fun r H'=>?_) c bp;have l:eH env u=true:=by simp[eH,F]
    cases d with
    |none =>
     refine⟨some ([(u,.v (.list none sz ys))],H'),?_,rfl,rfl⟩;intro p ao;cases ao;exact⟨by simp[dz,rr,iA],by simp[cW.eV],by simpa using fun _=>l,by simp[cW.gy],.inl (by simp)⟩
    |some d =>
     simp only[an.fr,an.put];have w:∀q:Env,eH (q.ins u (.v (.list none sz ys))) d=if d=u then true else eH q d:=by
      intro q;by_cases e:d=u
      ·subst e;simp[eH,Env.hp]
      ·simp only[e,if_false];exact tt e
     rw[w,w,tv (h.wr d (e8 rfl))];by_cases j:(if d=u then true else eH env d)=true
     ·rw[if_pos j,if_pos j];refine⟨some ([(u,.v (.list none sz ys)),(d,.v r)],H'),?_,rfl,rfl⟩;intro p ao;cases ao;refine⟨by simp[dz,rr,iA],?_,?_,?_,.inr ?_⟩
      ·intro p ao;simp at ao;rcases ao with rfl|rfl<;>simp[cW.eV]
      ·grind
      ·intro p ao;simp at ao;rcases ao with rfl|rfl<;>simp[cW.gy]
      ·intro p ao;simp at ao;rcases ao with rfl|rfl<;>simp[cW.gy,cW.eV]
     ·rw[if_neg j,if_neg j];exact eL
   ·exact GD (i d fun u a=>by simpa[iA]using a) c bp
   ·exact bp.elim
  ·rw[E]at bp;simp only at bp
 case nc d it =>
  have ak:=l3 (gl:=gl) (y:=it) (env:=env) (env2:=env2) fun t b=>h.rd t (by simpa[dn]using b);have ao:∀(y:AV)(H':List ax),lD (dz (.nc d it)) (br (.nc d it)) env env2 ((⟨env,H'⟩:an).put d y) ((⟨env2,H'⟩:an).put d y):=fun y H'=>lE (h.wr d (e8 rfl)) (e8 rfl);simp only[c8]at bp ⊢;rw[ak];split at bp
  ·rename_i id m since seen es _;cases es with
   |nil=>exact va (ao _ _) c bp|cons v es =>
    simp only at bp ⊢;exact⟨fun e he=>(va (ao _ _) c (bp e he)).1,(va (ao _ _) c (bp v (by simp))).2⟩
  ·exact bp.elim
 case bad d=>cases hk
 all_goals
  exact va (yF ⟨(fun e=>by rw[e]at hk;cases hk),(fun e=>by obtain⟨_,_,_,h⟩:=Tj e;cases h),(fun e=>by rw[e]at hk;cases hk)⟩ h) c bp
end
def GF(a b:List Nat):Bool:=a.all fun t=>!b.contains t
theorem GG{a b:List Nat}(h:GF a b=true){t:Nat}(aE:t∈a):t∉b:=by
 unfold GF at h;rw[List.all_eq_true]at h;have:=h t aE;simpa using this
def w7(i j:Nat):Bool:=(i==2&&(j==1||j==3||j==7))||(i==3&&(j==3||j==7))
def pE(i j:Nat):Bool:=((gn i&&w6 j)||(gn j&&w6 i))&&!w7 i j&&!w7 j i
section
variable {P:Program}{gl:cp}{D:bc}{env env2:Env}{H H':List ax}
variable {us:List (Nat×cW)}
theorem tw :∀{env:Env}{t:Nat},(∀p∈us,p.1≠t)->(et env us).get t=env.get t:=by
 induction us with
 |nil=>intro env t _;rfl|cons p us ih =>
  intro env t h;obtain⟨u,x⟩:=p;simp only[et];rw[ih fun p ao=>h p (by simp[ao]),qv (Ne.symm (h (u,x) (by simp)))]
theorem Tl :∀{env:Env},env.dQ->(et env us).dQ:=by
 induction us with
 |nil=>intro env h;exact h|cons p us ih=>intro env h;exact ih (Env.dQ.ins h p.1 p.2)
variable {t:Nat}
theorem pF(h:env2.get t=env.get t):dI env2 t=dI env t:=by unfold dI;rw[h]
variable {o:cz}
theorem akR{d:Nat}{x:cW}(a:d∉dn o):w5 P gl D (env.ins d x) o↔w5 P gl D env o:=by
 cases o<;>first|exact Iff.rfl|skip
 case ev d f xs=>simp only[w5,Gy (ys:=xs) (by simpa[dn]using a)]
variable {W:List Nat}{k:Nat}
theorem GH(hk:gn (br o)=true)(ao:pE (br o) k=true)(d:∀t∈W,t∉dn o/\t∉dz o):∀(us:List (Nat×cW))(env:Env)(H:List ax),env.dQ->lC W k env us ->
  mK gl D ⟨et env us,H'⟩ o=(mK gl D ⟨env,H⟩ o).map (fun s=>⟨et s.env us,H'⟩)/\(w5 P gl D (et env us) o↔w5 P gl D env o)
 |[],env,H,_,_=>by
  refine⟨?_,Iff.rfl⟩;exact Th hk
 |(t,x)::us,env,H,az,hu=>by
  have hm:=hu.mem (t,x) (by simp);obtain⟨g,U⟩:=d t hm;have cq:br o=2->x.gy=false/\∀u off,env.get t≠some (.a u off):=by
   intro h;rw[h]at ao;have i:k≠1:=by rintro rfl;simp[pE,w7]at ao
   refine⟨?_,?_⟩
   ·cases ah:x.gy with
    |false=>rfl|true=>exact absurd (hu.eo (t,x) (by simp) ah) i
   ·intro u off c;cases ah:x.eV with
    |false=>have:=hu.put (t,x) (by simp) ah;simp[eH,c]at this|true=>have:=(hu.box (t,x) (by simp) ah).2;simp[gy,c]at this
  have fl:br o=3\/br o=7->x.eV=false/\∀cs,env.get t≠some (.b cs):=by
   intro h;have j:k≠2:=by rintro rfl;rcases h with h|h<;>(rw[h]at ao;simp[pE,w7]at ao)
   have ah:x.eV=false:=by
    cases ah:x.eV with
    |false=>rfl|true=>exact absurd (hu.box (t,x) (by simp) ah).1 j
   refine⟨ah,fun cs c=>?_⟩;have:=hu.put (t,x) (by simp) ah;simp[eH,c]at this
  have l:lC W k (env.ins t x) us:=by
   rcases hu.one with h|h
   ·have:us=[]:=by simp at h;exact h
    subst this;exact⟨by simp,by simp,by simp,by simp,.inl (by simp)⟩
   ·have ah:=h (t,x) (by simp);have m:∃y,x=.v y:=by
     cases x with
     |v y=>exact⟨y,rfl⟩|a u off=>simp[cW.gy]at ah|b cs=>simp[cW.eV]at ah
    obtain⟨y,rfl⟩:=m;refine⟨fun p ao=>hu.mem p (by simp[ao]),fun p ao ae=>?_,fun p ao ae=>?_,fun p ao=>hu.eo p (by simp[ao]),.inr fun p ao=>h p (by simp[ao])⟩
    ·grind
    ·by_cases e:p.1=t
     ·rw[e];simp[eH,Env.hp]
     ·rw[tt e];exact hu.put p (by simp[ao]) ae
  obtain⟨n,q⟩:=GH hk ao d us (env.ins t x) H' (Env.dQ.ins az t x) l;simp only[et];refine⟨?_,q.trans (akR g)⟩;rw[n,akI (H:=H) az hk g U cq fl,Option.map_map];rfl
variable {s s1:an}
theorem Tm(hk:gn (br o)=true)(h:mK gl D s o=some s1):(∀t,t∉dz o->dI s1.env t=dI s.env t) /\
  (br o≠3->∃us,lC (dz o) (br o) s.env us/\s1.env=et s.env us):=by
 have q:Alike o s.env s.env:=⟨fun _ _=>rfl,fun _ _=>rfl,fun _ _ _=>rfl,fun _ _ _=>Iff.rfl⟩;by_cases b:br o=3
 ·refine⟨?_,fun h=>absurd b h⟩
  -- a write of a box
  obtain⟨m,g,rfl⟩:∃m g,o=.on m g:=by
   cases o<;>first|exact⟨_,_,rfl⟩|(simp[br]at b;done)|skip
   all_goals (simp only[br]at b;split at b<;>cases b)
  have hm:m=1\/m=2:=by
   cases g<;>simp only[br]at b;all_goals first|(cases b;done)|skip
   all_goals (split at b<;>first|(cases b;done)|skip)
   all_goals (first|(split at b<;>first|(cases b;done)|assumption|(split at b<;>cases b))|skip)
  have a:aH gl s (.on m g)=some s1:=h;by_cases w:ew s.env (fG g)=m
  ·rw[kS w]at a;have z:∀(s:an)(t off:Nat)(vs:List AV)(c:an),bz s vs (.ee t off)=some c->∀u,dI c.env u=dI s.env u:=by
    intro s t off vs c i u;simp only[bz]at i;split at i
    ·rename_i cs L;split at i
     ·simp at i;subst i;unfold dI;simp only[Env.hp];by_cases e:u=t
      ·subst e;simp[L]
      ·simp[e]
     ·cases i
    ·cases i
   have A:∀(s:an)(t:Nat)(y:AV)(c:an),s.put t y=some c->∀u,u≠t->dI c.env u=dI s.env u:=by
    intro s t y c ao u l;simp only[an.put]at ao;split at ao
    ·simp at ao;subst ao;exact pF (qv l)
    ·cases ao
   obtain⟨t,off,aE⟩:=w3 (gl:=gl) (env:=s.env) (y:=fG g) (by rw[w];exact hm);intro u l;cases g<;>simp only[br]at b<;>simp only[fG]at aE
   case iv d2 y e sz =>
    have G:u≠d2:=fun e=>l (by simp[dz,iA,e]);simp only[aH,aE,aKh]at a;obtain⟨cs,_,a⟩:=bind_some a;split at a
    ·obtain⟨c,B,C⟩:=bind_some a;rw[A _ _ _ _ C u G,z _ _ _ _ _ B u]
    ·exact A _ _ _ _ a u G
    ·cases a
   case st n y v =>
    simp only[aH,aE,aKh]at a;obtain⟨x,_,a⟩:=bind_some a;split at a
    ·exact z _ _ _ _ _ a u
    ·cases a
   case hP y v =>
    have E:u≠v:=fun e=>l (by simp[dz,iA,rr,e]);simp only[aH,aE,aKh]at a;split at a
    ·obtain⟨c,B,C⟩:=bind_some a;rw[z _ _ _ _ _ C u,A _ _ _ _ B u E]
    ·cases a
   all_goals (first|(cases b;done)|(repeat' (first|(cases b;done)|split at b)))
  ·rw[kT w]at a;cases a
 ·have key:∃us,lC (dz o) (br o) s.env us/\s1.env=et s.env us:=by
   by_cases J:∃d f xs,o=.ev d f xs
   ·obtain⟨d,f,xs,rfl⟩:=J;simp only[mK]at h;obtain⟨vs,_,h⟩:=bind_some h;split at h
    ·obtain⟨r,_,h⟩:=bind_some h;have:=Lz (W:=dz (.ev d f xs)) (k:=0) (env:=s.env) (env2:=s.env) (H:=s.heap) (t:=d) (y:=r) (fun u l=>⟨rfl,e8 (by simpa[iA]using l)⟩);obtain⟨F,j,U,_⟩:=this;rw[show(⟨s.env,s.heap⟩:an)=s from rfl,h]at U;cases F with
     |none=>cases U|some p=>simp at U;exact⟨p.1,j p rfl,by rw[U];rfl⟩
    ·cases h
   ·have j:mK gl D s o=aH gl s o:=by cases o<;>first|rfl|exact absurd ⟨_,_,_,rfl⟩ J
    rw[j]at h;obtain⟨F,j,U,_⟩:=yF (gl:=gl) (H:=s.heap) ⟨b,(fun e=>by rw[e]at hk;cases hk),(fun e=>by rw[e]at hk;cases hk)⟩ q;rw[show(⟨s.env,s.heap⟩:an)=s from rfl,h]at U;cases F with
    |none=>cases U|some p=>simp at U;exact⟨p.1,j p rfl,by rw[U];rfl⟩
  refine⟨fun t O=>?_,fun _=>key⟩;obtain⟨us,j,U⟩:=key;rw[U];exact pF (tw fun p ao e=>O (e▸j.mem p ao))
theorem akU(h:eH env t=true):∀cs,env.get t≠some (.b cs):=fun cs a=>by simp[eH,a]at h
theorem akV(h:eH env t=true):∀u off,env.get t≠some (.a u off):=fun u off a=>by simp[eH,a]at h
theorem akW(h:gy env t=false):∀u off,env.get t≠some (.a u off):=fun u off a=>by simp[gy,a]at h
theorem Tn(hk:k≠1):∀(us:List (Nat×cW))(env:Env),env.dQ->lC W k env us->∀t,lT (et env us) t=lT env t
 |[],_,_,_,_=>rfl|(u,x)::us,env,az,hu,t=>by
  have ah:x.gy=false:=by
   cases ah:x.gy with
   |false=>rfl|true=>exact absurd (hu.eo (u,x) (by simp) ah) hk
  have aA:∀v off,env.get u≠some (.a v off):=by
   cases ae:x.eV with
   |false=>exact akV (hu.put (u,x) (by simp) ae)|true=>exact akW (hu.box (u,x) (by simp) ae).2
  have c:lC W k (env.ins u x) us:=by
   rcases hu.one with h|h
   ·have:us=[]:=by simp at h;exact h
    subst this;exact⟨by simp,by simp,by simp,by simp,.inl (by simp)⟩
   ·have ah:=h (u,x) (by simp);have d:∃y,x=.v y:=by
     cases x with
     |v y=>exact⟨y,rfl⟩|a u off=>simp[cW.gy]at ah|b cs=>simp[cW.eV]at ah
    obtain⟨y,rfl⟩:=d;refine⟨fun p ao=>hu.mem p (by simp[ao]),fun p ao ae=>?_,fun p ao ae=>?_,fun p ao=>hu.eo p (by simp[ao]),.inr fun p ao=>h p (by simp[ao])⟩
    ·grind
    ·by_cases e:p.1=u
     ·rw[e];simp[eH,Env.hp]
     ·rw[tt e];exact hu.put p (by simp[ao]) ae
  simp only[et];rw[Tn hk us (env.ins u x) (Env.dQ.ins az u x) c t,S7 ah aA az]
theorem To(hk:k≠2):∀(us:List (Nat×cW))(env:Env),lC W k env us->∀t cs,(et env us).get t=some (.b cs)↔env.get t=some (.b cs)
 |[],_,_,_,_=>Iff.rfl|(u,x)::us,env,hu,t,cs=>by
  have ah:x.eV=false:=by
   cases ah:x.eV with
   |false=>rfl|true=>exact absurd (hu.box (u,x) (by simp) ah).1 hk
  have aA:=akU (hu.put (u,x) (by simp) ah);have c:lC W k (env.ins u x) us:=by
   rcases hu.one with h|h
   ·have:us=[]:=by simp at h;exact h
    subst this;exact⟨by simp,by simp,by simp,by simp,.inl (by simp)⟩
   ·have ah:=h (u,x) (by simp);have d:∃y,x=.v y:=by
     cases x with
     |v y=>exact⟨y,rfl⟩|a u off=>simp[cW.gy]at ah|b cs=>simp[cW.eV]at ah
    obtain⟨y,rfl⟩:=d;refine⟨fun p ao=>hu.mem p (by simp[ao]),fun p ao ae=>?_,fun p ao ae=>?_,fun p ao=>hu.eo p (by simp[ao]),.inr fun p ao=>h p (by simp[ao])⟩
    ·grind
    ·by_cases e:p.1=u
     ·rw[e];simp[eH,Env.hp]
     ·rw[tt e];exact hu.put p (by simp[ao]) ae
  simp only[et];rw[To hk us (env.ins u x) c t cs,Env.hp];by_cases e:t=u
  ·subst e;simp only[if_true,Option.some.injEq];constructor
   ·rintro rfl;simp[cW.eV]at ah
   ·intro h;exact absurd h (aA cs)
  ·simp[e]
structure yK(a b:cz):Prop where
 sx:∀t∈dz a,t∉dn b/\t∉dz b
 tx:∀t∈dz b,t∉dn a/\t∉dz a
 ok:pE (br a) (br b)=true
variable {a b:cz}
theorem Tp(az:s.env.dQ)(aE:gn (br a)=true)(r:w6 (br b)=true)(h:yK a b)(he:mK gl D s a=some s1):Alike b s1.env s.env/\Alike b s.env s1.env:=by
 obtain⟨u,n⟩:=Tm aE he;have j:∀t,t∈dn b\/t∈dz b->dI s1.env t=dI s.env t:=fun t c=>u t fun v=>by
  obtain⟨g,i⟩:=h.sx t v;rcases c with c|c
  ·exact g c
  ·exact i c
 have p:br b=2->∀t,lT s1.env t=lT s.env t:=by
  intro w t;have d:=h.ok;rw[w]at d;have l:br a≠3:=fun e=>by rw[e]at d;simp[pE,w7]at d
  have x:br a≠1:=fun e=>by rw[e]at d;simp[pE,w7]at d
  obtain⟨us,g,i⟩:=n l;rw[i];exact Tn x us s.env az g t
 have q:br b=7->∀t cs,s1.env.get t=some (.b cs)↔s.env.get t=some (.b cs):=by
  intro m t cs;have d:=h.ok;rw[m]at d;have l:br a≠3:=fun e=>by rw[e]at d;simp[pE,w7]at d
  have U:br a≠2:=fun e=>by rw[e]at d;simp[pE,w7]at d
  obtain⟨us,g,i⟩:=n l;rw[i];exact To U us s.env g t cs
 exact⟨⟨fun t c=>(j t (.inl c)).symm,fun t c=>(j t (.inr c)).symm,fun e t _=>(p e t).symm,fun e t cs=>q e t cs⟩,
  ⟨fun t c=>j t (.inl c),fun t c=>j t (.inr c),fun e t _=>p e t,fun e t cs=>(q e t cs).symm⟩⟩
theorem Tr(h:lC W k env us)(c:∀t∈W,dI env2 t=dI env t):lC W k env2 us :=
 ⟨h.mem,fun p ao ae=>⟨(h.box p ao ae).1,by rw[S9 (c _ (h.mem p ao))];exact(h.box p ao ae).2⟩,fun p ao ae=>by rw[tv (c _ (h.mem p ao))];exact h.put p ao ae,h.eo,h.one⟩
variable {K:an->Prop}
theorem akY(az:s.env.dQ)(aE:gn (br a)=true)(ae:w6 (br b)=true)(h:yK a b)(bp:c8 P gl D s (fun s1=>c8 P gl D s1 K b) a) :
  c8 P gl D s (fun s1=>c8 P gl D s1 K a) b:=by
 obtain⟨e,s1,he,bp⟩:=(yG (.inl aE)).1 bp;obtain⟨d,p⟩:=Tp az aE ae h he;have g:=Ti aE he;have c:c8 P gl D ⟨s1.env,s.heap⟩ K b:=by rw[<-g];exact bp
 refine(yJ (K2:=fun s1=>c8 P gl D s1 K a) ae d (fun us H' i j=>?_) c).1;have l:=Tr i d.wr;obtain⟨m,n⟩:=GH (P:=P) (gl:=gl) (D:=D) (H':=H') aE h.ok h.tx us s.env s.heap az l;refine(yG (.inl aE)).2 ⟨n.2 e,⟨et s1.env us,H'⟩,?_,j⟩;rw[m,show(⟨s.env,s.heap⟩:an)=s from rfl,he];rfl
theorem ak0(az:s.env.dQ)(aE:gn (br a)=true)(ae:w6 (br b)=true)(h:yK a b)(bp:c8 P gl D s (fun s1=>c8 P gl D s1 K a) b) :
  c8 P gl D s (fun s1=>c8 P gl D s1 K b) a:=by
 have g:Alike b s.env s.env:=⟨fun _ _=>rfl,fun _ _=>rfl,fun _ _ _=>rfl,fun _ _ _=>Iff.rfl⟩;have d:c8 P gl D ⟨s.env,s.heap⟩ (fun s1=>c8 P gl D s1 K a) b:=bp;obtain⟨i,j,l,m⟩:=(yJ (K2:=fun _=>True) ae g (fun _ _ _ _=>trivial) d).2;obtain⟨n,p⟩:=GH (P:=P) (gl:=gl) (D:=D) (H':=j) aE h.ok h.tx i s.env s.heap az l;obtain⟨q,z,e,_⟩:=(yG (.inl aE)).1 m;rw[n,show(⟨s.env,s.heap⟩:an)=s from rfl,Option.map_eq_some_iff]at e;obtain⟨s1,he,_⟩:=e;obtain⟨A,r⟩:=Tp az aE ae h he;have u:=Ti aE he;refine(yG (.inl aE)).2 ⟨p.1 q,s1,he,?_⟩;have:c8 P gl D ⟨s1.env,s.heap⟩ K b:=by
  refine(yJ (K2:=K) ae r (fun us H' v w=>?_) d).1;obtain⟨x,B⟩:=GH (P:=P) (gl:=gl) (D:=D) (H':=H') aE h.ok h.tx us s.env s.heap az v;obtain⟨_,C,c,y⟩:=(yG (.inl aE)).1 w;rw[x,show(⟨s.env,s.heap⟩:an)=s from rfl,he]at c;simp at c;rw[c];exact y
 rw[<-u]at this;exact this
theorem yK.symm(h:yK a b):yK b a:=⟨h.tx,h.sx,by
 have:=h.ok;unfold pE at this ⊢;simp only[aKg,Bool.or_eq_true]at this ⊢;exact⟨⟨this.1.1.symm,this.2⟩,this.1.2⟩⟩
theorem swap(az:s.env.dQ)(h:yK a b)(bp:c8 P gl D s (fun s1=>c8 P gl D s1 K b) a):c8 P gl D s (fun s1=>c8 P gl D s1 K a) b:=by
 have d:=h.ok;simp only[pE,aKg,Bool.or_eq_true]at d;rcases d.1.1 with⟨c,U⟩|⟨c,U⟩
 ·exact akY az c U h bp
 ·exact ak0 az c U h.symm bp
end
end AM
