/- An abstract machine, and what of the given program it does, part 3. Conditions: none. -/
import Derived.Test.YtclmmldjogkhoaaGreatDoorAm1
import Derived.Laws.Cells
set_option linter.unusedVariables false
namespace AM
open Bool renaming and_eq_true -> I9
open List renaming map_cons -> Ja,map_nil -> LW,getElem?_toArray -> fM,getElem?_cons_zero -> aeZ
open Option renaming map_none -> TH
open Go
section
variable {P:Program}{gl:cp}{N:Nat}{g:bo}{s s':an}{a:Act}{w:World}{o:Oper}
theorem ni(b off j:Nat):(⟨b,off,none⟩:Addr).add j=⟨b,off+j,none⟩:=by unfold Addr.add;split<;>simp_all
variable {cs:List AV}{v:Value}
theorem bb.JU(h:bb g (.a8 cs) v):∃ws,v=.tuple ws.toArray/\cr g cs ws:=by
 cases h with
 |pure _ _ h=>cases h|a8 _ ws h=>exact⟨ws,rfl,h⟩
variable {own:Option Nat}{sz:Nat}{xs:List AV}
theorem bb.yd(h:bb g (.list own sz xs) v) :
  ∃base cap,v=.slice base xs.length cap/\(xs.length<=M/\xs.length<=cap)/\(xs=[]\/∃b off,base=some ⟨b,off,none⟩/\eI g.γ b off sz xs):=by
 have key:df g.γ (.list none sz xs) v->∃base cap,v=.slice base xs.length cap/\(xs.length<=M/\xs.length<=cap)/\(xs=[]\/∃b off,base=some ⟨b,off,none⟩/\eI g.γ b off sz xs):=by
  intro h;cases h with
  |jD _ base cap _=>exact⟨base,cap,rfl,by simp,.inl rfl⟩|list b off cap _ _ h1 c U=>exact⟨_,cap,rfl,⟨h1,c⟩,.inr ⟨b,off,rfl,U⟩⟩
 cases h with
 |pure _ _ h =>
  cases own with
  |none=>exact key h|some e=>cases h
 |own _ _ _ _ h=>exact key h
theorem bb.RF(h:bb g (.db cs) v):∃b off,v=ptrTo b off/\e5 g.γ b off cs:=by
 cases h with
 |pure _ _ h=>cases h with|db b off _ h=>exact⟨b,off,rfl,h⟩
variable {γ:e4}{b:Nat}
theorem eI.get :∀{xs:List AV}{off:Nat},eI γ b off sz xs->∀(i:Nat)x,xs[i]?=some x->x.cells.length=sz/\e5 γ b (off+i*sz) x.cells
 |[],_,_,i,x,ah=>by simp at ah|y::ys,off,.cons _ _ _ _ _ h1 U c,i,x,ah=>by
  cases i with
  |zero=>simp at ah;subst ah;simpa using⟨h1,U⟩|succ i =>
   obtain⟨d,e⟩:=eI.get c i x (by simpa using ah);refine⟨d,?_⟩;have:off+(i+1)*sz=off+sz+i*sz:=by rw[Nat.add_mul];omega
   rw[this];exact e
theorem eI.drop :∀(n:Nat){xs:List AV}{off:Nat},eI γ b off sz xs->eI γ b (off+n*sz) sz (xs.drop n)
 |0,_,_,h=>by simpa using h|n+1,[],_,_=>by simpa using eI.nil _ _ _|n+1,y::ys,off,.cons _ _ _ _ _ h1 U c=>by
  have:=eI.drop n c;have e:off+(n+1)*sz=off+sz+n*sz:=by rw[Nat.add_mul];omega
  rw[e];simpa using this
theorem eI.take :∀(n:Nat){xs:List AV}{off:Nat},eI γ b off sz xs->eI γ b off sz (xs.take n)
 |0,_,_,_=>by simpa using eI.nil _ _ _|n+1,[],_,_=>by simpa using eI.nil _ _ _|n+1,y::ys,off,.cons _ _ _ _ _ h1 U c=>by simpa using eI.cons _ _ _ _ _ h1 U (eI.take n c)
theorem e5.drop :∀(n:Nat){xs:List AV}{off:Nat},e5 γ b off xs->e5 γ b (off+n) (xs.drop n)
 |0,_,_,h=>by simpa using h|n+1,[],_,_=>by simpa using e5.nil _ _|n+1,y::ys,off,.cons _ _ _ _ v h1 U d c=>by
  have:=e5.drop n c;have e:off+(n+1)=off+1+n:=by omega
  rw[e];simpa using this
theorem e5.take :∀(n:Nat){xs:List AV}{off:Nat},e5 γ b off xs->e5 γ b off (xs.take n)
 |0,_,_,_=>by simpa using e5.nil _ _|n+1,[],_,_=>by simpa using e5.nil _ _|n+1,y::ys,off,.cons _ _ _ _ v h1 U c d=>by simpa using e5.cons _ _ _ _ v h1 U c (e5.take n d)
def JV(N:Nat)(o:Oper)(d x i:Nat):Bool:=cB N o d&&(match o.op with|.extract (.tmp t) j=>t==x&&j==i|_=>false)
variable {d:Nat}
theorem ahR{x i:Nat}(h:Rel P gl N g s a w)(e:JV N o d x i=true)(he:aH gl s (.ext d x i)=some s'):dR P gl N o g a w s':=by
 simp only[JV,I9]at e;obtain⟨hd,c⟩:=e;split at c
 ·rename_i t j aA;simp at c;obtain⟨rfl,rfl⟩:=c;simp only[aH]at he;split at he
  ·rename_i vs f;obtain⟨u,k,U⟩:=bind_some he;obtain⟨v,l,m,_⟩:=h.env _ _ f;obtain⟨ws,rfl,q⟩:=m.JU;obtain⟨x,n,p⟩:=q.get.2 _ _ k;exact .value h hd U (v:=x) (by simp[execOp,aA,Act.eval,l,Instr.extract,n]) p.aW (cP.aW u)
  ·cases he
 ·cases c
def si(op:Op):Option (Builtin×List Operand×List TypeId) :=
 match op with
 |.call c=>match c.callee with
  |.builtin b=>some (b,c.args.toList,c.argTypes.toList)|_=>none
 |_=>none
theorem uH{op:Op}{b:Builtin}{xs:List Operand}{bu:List TypeId}(h:si op=some (b,xs,bu))(aA:o.op=op)(aH:Operand->Value) :
  ∃f,execOp aH o=builtin b bu.toArray o.type f (xs.map aH).toArray:=by
 unfold si at h;split at h
 ·rename_i c;split at h
  ·rename_i j i;simp at h;obtain⟨rfl,rfl,rfl⟩:=h;have e:(List.map aH c.args.toList).toArray=c.args.map aH:=by apply Array.ext';simp
   simp only[execOp,aA,resolve,i,pure_bind,invoke,e,Array.toArray_toList];exact⟨_,rfl⟩
  ·cases h
 ·cases h
def ye(P:Program)(m:Nat)(t:TypeId):Bool:=match P.underlying t with|some .string=>m==0|some (.slice _)=>m==1|some (.map _ _)=>m==2|_=>false
variable {t:TypeId}
theorem ahS(h:ye P 0 t=true):P.underlying t=some .string:=by unfold ye at h;split at h<;>simp_all
theorem FP(h:ye P 1 t=true):∃e,P.underlying t=some (.slice e):=by unfold ye at h;split at h<;>simp_all
theorem RG(h:ye P 2 t=true):∃k e,P.underlying t=some (.map k e):=by unfold ye at h;split at h<;>simp_all
theorem bb.JW(h:bb g .gw v):v=.map none:=by
 cases h with
 |pure _ _ h=>cases h;rfl
theorem bb.JX(h:bb g (.gZ sz) v):∃base cap,v=.slice (some base) 0 cap:=by
 cases h with
 |pure _ _ h=>cases h with|gZ _ base cap=>exact⟨base,cap,rfl⟩
variable {n:Nat}
theorem bb.ahT{cap:Nat}{base:Option Addr}(h:bb g (.list own sz xs) (.slice base n cap)):base=none->cap=0:=by
 cases h with
 |pure _ _ h=>cases h with
  |jD _ _ _ h=>exact h|list=>simp
 |own _ _ _ _ h=>cases h with
  |jD _ _ _ h=>exact h|list=>simp
theorem bb.tk(h:bb g (.aV sz) v):v=.slice none 0 0:=by
 cases h with
 |pure _ _ h=>cases h;rfl
variable {id:Nat}
theorem bb.uI(h:bb g (.map id) v):∃b,g.b4 id=some b/\v=.map (some b):=by
 cases h with
 |pure _ _ h=>cases h|map _ b ae=>exact⟨b,ae,rfl⟩
variable {off:Nat}
theorem bb.sj(h:bb g (.bs id off n sz) v):∃b k cap,g.b4 id=some b/\g.b4 (id+1)=some k/\off+cap*sz=k/\n<=cap/\v=.slice (some ⟨b,off,none⟩) n cap:=by
 cases h with
 |pure _ _ h=>cases h|bs _ _ _ _ b k cap h1 U c e=>exact⟨b,k,cap,h1,U,c,e,rfl⟩
theorem ahU{o:Obj}(h:w.heap[b]?=some o)(aA:∀c e f,o≠.cells c e f):(getObj b).run P w=.ok o w:=by
 show(Sem.getObj b Sem.pure).run P w=.ok o w;simp only[Sem.run,h]
variable {ty:TypeId}
theorem ahV(c:P.underlying t=some .string)(l:List UInt8):(Builtin.len_ #[t] ty #[.string ⟨l.toArray⟩]).run P w=.ok (.int .i64 l.length) w:=by
 have:(ByteArray.mk l.toArray).size=l.length:=by simp[ByteArray.size]
 simp only[Builtin.len_,fM,aeZ,Sem.run_bind,run_underlying c,Result.andThen_ok,Sem.run_pure,goInt,this]
theorem FQ{e:TypeId}(c:P.underlying t=some (.slice e))(base:Option Addr)(n cap:Nat):(Builtin.len_ #[t] ty #[.slice base n cap]).run P w=.ok (.int .i64 n) w:=by
 simp only[Builtin.len_,fM,aeZ,Sem.run_bind,run_underlying c,Result.andThen_ok,Sem.run_pure,goInt]
def JY(P:Program)(N:Nat)(o:Oper)(d m:Nat)(x:aI):Bool:=cB N o d &&
 (match si o.op with|some (.len,[bx],[t])=>ds bx x&&ye P m t|_=>false)
variable {x:aI}
theorem ahW{m:Nat}(h:Rel P gl N g s a w)(u:JY P N o d m x=true)(he:aH gl s (.len d m x)=some s'):dR P gl N o g a w s':=by
 simp only[JY,I9]at u;obtain⟨hd,q⟩:=u;split at q
 ·rename_i D t aA;obtain⟨E,p⟩:=uH (o:=o) aA rfl a.eval;simp only[I9]at q;obtain⟨ah,c⟩:=q;simp only[aH]at he;split at he
  ·rename_i own sz xs f;split at he
   ·rename_i i;subst i;obtain⟨e,c⟩:=FP c;obtain⟨base,cap,j,_⟩:=(c9 h ah f).yd;refine .value h hd he (v:=.int .i64 xs.length) ?_ (.pure _ _ (.int _ _)) (oI _ _);rw[p];simp only[builtin,Ja,LW,j,Sem.run_bind,FQ c,Result.andThen_ok,Sem.run_pure]
   ·cases he
  ·rename_i l f;split at he
   ·rename_i i;subst i;have c:=ahS c;have j:=(c9 h ah f).lV.1;refine .value h hd he (v:=.int .i64 l.length) ?_ (.pure _ _ (.int _ _)) (oI _ _);rw[p];simp only[builtin,Ja,LW,j,Sem.run_bind,ahV c,Result.andThen_ok,Sem.run_pure]
   ·cases he
  ·split at he
   ·rename_i f i;subst i;obtain⟨_,e,c⟩:=RG c;have j:=(c9 h ah f).JW;refine .value h hd he (v:=.int .i64 0) ?_ (.pure _ _ (.int _ _)) (oI _ _);rw[p];simp only[builtin,Ja,LW,j,Builtin.len_,fM,aeZ,Sem.run_bind,run_underlying c,Result.andThen_ok,Sem.run_pure,goInt]
   ·cases he
  ·split at he
   ·rename_i f i;subst i;obtain⟨e,c⟩:=FP c;have j:=(c9 h ah f).tk;refine .value h hd he (v:=.int .i64 0) ?_ (.pure _ _ (.int _ _)) (oI _ _);rw[p];simp only[builtin,Ja,LW,j,Sem.run_bind,FQ c,Result.andThen_ok,Sem.run_pure];rfl
   ·cases he
  ·split at he
   ·rename_i f i;subst i;obtain⟨e,c⟩:=FP c;obtain⟨base,cap,j⟩:=(c9 h ah f).JX;refine .value h hd he (v:=.int .i64 0) ?_ (.pure _ _ (.int _ _)) (oI _ _);rw[p];simp only[builtin,Ja,LW,j,Sem.run_bind,FQ c,Result.andThen_ok,Sem.run_pure];rfl
   ·cases he
  ·split at he
   ·rename_i f i;subst i;obtain⟨e,c⟩:=FP c;obtain⟨b,k,cap,_,_,_,_,j⟩:=(c9 h ah f).sj;refine .value h hd he (v:=.int .i64 _) ?_ (.pure _ _ (.int _ _)) (oI _ _);rw[p];simp only[builtin,Ja,LW,j,Sem.run_bind,FQ c,Result.andThen_ok,Sem.run_pure]
   ·cases he
  ·split at he
   ·rename_i f i;subst i;split at he
    ·rename_i n es y;obtain⟨_,e,c⟩:=RG c;obtain⟨b,ae,j⟩:=(c9 h ah f).uI;obtain⟨F,r,arr,z,G,⟨cX,A,B,H⟩,J⟩:=h.heap _ _ y;rw[ae]at r;simp at r;subst r;have C:arr.size=es.length:=by rw[<-A.length_eq,B];simp
     refine .value h hd he (v:=.int .i64 es.length) ?_ (.pure _ _ (.int _ _)) (oI _ _);rw[p];simp[builtin,j,Builtin.len_,run_underlying c,goInt,ahU z (by simp),C]
    ·cases he
   ·cases he
  ·cases he
 ·cases q
def Ad(P:Program)(g:bo)(s:an)(a:Act)(w:World)(v:Value):lj->Prop
 |.ee t off=>∃b cs,s.env.get t=some (.b cs)/\a.tmps[t]?=some (ptrTo b 0)/\v=ptrTo b off/\iK P g w b (.ee t) (.eJ t) cs|.ao id off=>∃b,g.b4 id=some b/\v=ptrTo b off|.jf cs=>∃b off,v=ptrTo b off/\e5 g.γ b off cs
variable {p:lj}
theorem q9(h:Rel P gl N g s a w){y:Operand}(k:ds y x=true)(he:eo gl s.env x=some p):Ad P g s a w (a.eval y) p:=by
 unfold eo at he;split at he
 ·rename_i n;have l:y=.tmp n:=by unfold ds at k;split at k<;>simp_all
  subst l;split at he
  ·rename_i cs c;simp at he;subst he;obtain⟨b,e,f⟩:=h.env _ _ c;exact⟨b,cs,c,e,by simp[Act.eval,e],f⟩
  ·rename_i t off c;simp at he;subst he;obtain⟨⟨cs,m⟩,b,e,f⟩:=h.env _ _ c;obtain⟨r,i,j⟩:=h.env _ _ m;rw[f]at i;simp[ptrTo]at i;subst i;exact⟨b,cs,m,f,by simp[Act.eval,e],j⟩
  ·rename_i id off c;simp at he;subst he;obtain⟨v,e,f,_⟩:=h.env _ _ c;obtain⟨b,i,j⟩:=f.sh;exact⟨b,i,by simp[Act.eval,e,j]⟩
  ·rename_i cs c;simp at he;subst he;obtain⟨v,e,f,_⟩:=h.env _ _ c;obtain⟨b,off,i,j⟩:=f.RF;exact⟨b,off,by simp[Act.eval,e,i],j⟩
  ·cases he
 ·rename_i n;have l:y=.global n:=by unfold ds at k;split at k<;>simp_all
  subst l;split at he
  ·rename_i cs c;simp at he;subst he;have:=h.gz _ _ c;cases this with
   |db b off _ q=>exact⟨n,0,rfl,q⟩
  ·cases he
 ·cases he
def JZ(g:bo)(w:World)(b off:Nat)(cs:List AV):Prop :=
 ∃ws:List Value,ws.length=cs.length/\cr g cs ws/\(∀v∈ws,v.oneCell'=true)/\∀j v,ws[j]?=some v->w.cell? ⟨b,off+j,none⟩=some v
variable {ws:List Value}
theorem cr.FR :∀{cs:List AV},ws.length=cs.length->(∀(i:Nat)c v,cs[i]?=some c->ws[i]?=some v->bb g c v)->cr g cs ws:=by
 induction ws with
 |nil=>intro cs h _;cases cs with|nil=>exact .nil|cons=>simp at h
 |cons w ws ih =>
  intro cs h e;cases cs with
  |nil=>simp at h|cons c cs=>exact .cons _ _ _ _ (e 0 c w (by simp) (by simp)) (ih (by simpa using h) fun i c v f j=>e (i+1) c v (by simpa using f) (by simpa using j))
theorem iK.cells{ow:ey}{oc:Nat->ey}(h:iK P g w b ow oc cs) :JZ g w b off ((cs.drop off).take n):=by
 obtain⟨arr,ty,q,U,A,B,r⟩:=h;generalize cg:arr.toList.take cs.length=L;have l:L.length=cs.length:=by rw[<-cg];simp;omega
 have m:∀(i:Nat)v,L[i]?=some v->arr[i]?=some v:=fun i v e=>by
  rw[<-cg,List.getElem?_take]at e;split at e
  ·simpa using e
  ·cases e
 refine⟨(L.drop off).take n,by simp[l],.FR (by simp[l]) fun i c v C e=>?_,fun v e=>?_,fun j v e=>?_⟩
 ·grind
 ·obtain⟨i,ak,k⟩:=List.getElem_of_mem e;have f:((L.drop off).take n)[i]?=some v:=by rw[List.getElem?_eq_getElem ak,k]
  rw[List.getElem?_take]at f;split at f
  ·rw[List.getElem?_drop]at f;have u:off+i<cs.length:=by grind
   obtain⟨D,y,z,_⟩:=r (off+i) cs[off+i] (by simp[u]);have f:=m _ _ f;rw[y]at f;simp at f;subst f;exact z
  ·cases f
 ·rw[List.getElem?_take]at e;split at e
  ·rw[List.getElem?_drop]at e;rw[cell_of_row w b _ arr ty (0,0) q];exact m _ _ e
  ·cases e
theorem e5.RH{g:bo}{w:World}(f:∀b off v,g.γ b off=some v->w.cell? ⟨b,off,none⟩=some v):∀{cs:List AV}{b off:Nat},e5 g.γ b off cs->JZ g w b off cs
 |[],_,_,_=>⟨[],rfl,.nil,by simp,by simp⟩|c::cs,b,off,.cons _ _ _ _ v h1 U h i=>by
  obtain⟨ws,k,l,m,q⟩:=e5.RH f i;refine⟨v::ws,by simp[k],.cons _ _ _ _ (.pure _ _ h) l,by simpa[U]using m,fun j u e=>?_⟩;cases j with
  |zero=>simp at e;subst e;exact f _ _ _ h1|succ j=>have:=q j u (by simpa using e);rw[<-this];congr 2;omega
theorem RI(h:Rel P gl N g s a w)(ao:Ad P g s a w v p)(c:bC s n p=some cs):∃b off,v=ptrTo b off/\JZ g w b off cs/\cs.length=n:=by
 cases p with
 |ee t off =>
  obtain⟨b,f,j,l,u,y⟩:=ao;simp only[bC,j]at c;split at c
  ·rename_i m;simp at c;subst c;exact⟨b,off,u,y.cells,by simp;omega⟩
  ·cases c
 |ao id off =>
  obtain⟨b,j,l⟩:=ao;simp only[bC]at c;split at c
  ·rename_i f q;obtain⟨z,i,r⟩:=h.heap _ _ q;rw[j]at i;simp at i;subst i;split at c
   ·rename_i m;simp at c;subst c;exact⟨b,off,l,r.cells,by simp;omega⟩
   ·cases c
  ·rename_i e f q;obtain⟨z,k,i,_,r,_⟩:=h.heap _ _ q;rw[j]at i;simp at i;subst i;split at c
   ·rename_i m;simp at c;subst c;exact⟨b,off,l,r.cells,by simp;omega⟩
   ·cases c
  ·cases c
 |jf f =>
  obtain⟨b,off,j,l⟩:=ao;simp only[bC]at c;split at c
  ·rename_i m;simp at c;subst c;exact⟨b,off,j,(l.take n).RH h.ff,by simp;omega⟩
  ·cases c
theorem cr.aW(h:cr g cs ws):cr g (cs.map AV.aW) ws:=by
 induction ws generalizing cs with
 |nil=>cases h;exact .nil|cons w ws ih=>cases h with|cons c cs _ _ h1 U=>exact .cons _ _ _ _ h1.aW (ih U)
def wE(P:Program)(N:Nat)(o:Oper)(d:Nat)(x:aI)(n:Nat)(ag:Bool):Bool:=cB N o d &&
 (match o.op with|.load t bx=>ds bx x&&(match P.info? t with|some i=>i.size==n|none=>false) &&
  (match P.underlying t with|some (.struct _)|some (.array _ _)=>ag|some _=>!ag&&n==1|none=>false)|_=>false)
variable {oJ:TypeDesc}
theorem FT{i:TypeInfo}(ak:P.info? t=some i)(h:P.underlying t=some oJ)(k:ws.length=i.size)
  (l:∀j v,ws[j]?=some v->w.cell? ⟨b,off+j,none⟩=some v)(m:(∃c,oJ=.struct c)\/∃n e,oJ=.array n e):(Instr.loadAt t (ptrTo b off)).run P w=.ok (.agg ws.toArray) w:=by
 have f:=run_loadCells_list (P:=P) (w:=w) ⟨b,off,none⟩ ws (fun j v q=>by rw[ni];exact l j v q);have U:(isAgg t).run P w=.ok true w:=by
  rcases m with⟨c,rfl⟩|⟨n,e,rfl⟩<;>simp[isAgg,run_underlying h]
 rw[k]at f;simp[Instr.loadAt,Instr.sureAddr,ptrTo,loadVar,U,Go.sizeOf,typeInfo,ak,f]
theorem FU(f:P.underlying t=some oJ)(c:(∀h,oJ≠.struct h)/\∀n e,oJ≠.array n e)
  (i:w.cell? ⟨b,off,none⟩=some v):(Instr.loadAt t (ptrTo b off)).run P w=.ok v w:=by
 have U:(isAgg t).run P w=.ok false w:=by
  cases oJ<;>first|(simp[isAgg,run_underlying f];done)|exact absurd rfl (c.1 _)|exact absurd rfl (c.2 _ _)
 simp[Instr.loadAt,Instr.sureAddr,ptrTo,loadVar,U,i]
theorem ahY{ag:Bool}(h:Rel P gl N g s a w)(z:wE P N o d x n ag=true)(he:aH gl s (.ld d x n ag)=some s'):dR P gl N o g a w s':=by
 simp only[wE,I9]at z;obtain⟨hd,k⟩:=z;split at k
 ·rename_i t L aA;simp only[I9]at k;obtain⟨⟨ah,l⟩,hk⟩:=k;split at l
  ·rename_i i ak;simp at l;simp only[aH]at he;obtain⟨p,C,he⟩:=bind_some he;obtain⟨cs,U,he⟩:=bind_some he;obtain⟨b,off,A,⟨ws,O,B,D,q⟩,Q⟩:=RI h (q9 h ah C) U;have r:ag=true->((execOp a.eval o).run P w=.ok (.value (.agg ws.toArray)) w):=by
    intro f;simp only[execOp,aA,Sem.run_bind,A];split at hk
    ·rename_i y j;rw[FT ak j (by omega) q (.inl ⟨y,rfl⟩)];rfl
    ·rename_i m e j;rw[FT ak j (by omega) q (.inr ⟨m,e,rfl⟩)];rfl
    ·simp[f]at hk
    ·cases hk
   split at he
   ·rename_i f;exact .value h hd he (r f) (.agg _ _ B.aW D) (fun _ _ _ h=>by simp at h)
   ·rename_i f;split at he
    ·rename_i c;cases B with
     |cons _ _ u us j E =>
      cases E;have F:=q 0 u (by simp);refine .value h hd he (v:=u) ?_ j.aW (cP.aW c);simp only[execOp,aA,Sem.run_bind,A];split at hk
      ·simp[f]at hk
      ·simp[f]at hk
      ·rename_i oJ G H J;rw[FU J ⟨fun y e=>G y e,fun n e K=>H n e K⟩ (by simpa using F)];rfl
      ·cases hk
    ·cases he
  ·cases l
 ·cases k
end
section
variable {P:Program}{gl:cp}{N:Nat}{g:bo}{s s':an}{a:Act}{w:World}{o:Oper}
theorem Cx(cs:List AV):cP (.db cs):=fun _ _ _ h=>by simp at h
theorem uL(id off:Nat):cP (.ptr id off):=fun _ _ _ h=>by simp at h
def RJ(P:Program)(t f off:Nat):Bool :=
 match P.underlying t with
 |some (.struct dm) =>
  match dm[f]? with
  |some fd=>fd.offset==off&&(match P.info? fd.type with|some i=>i.size != 0|none=>false)|none=>false
 |_=>false
def J0(P:Program)(N:Nat)(o:Oper)(d:Nat)(x:aI)(off:Nat):Bool:=cB N o d &&
 (match o.op with|.fieldAddr t bx f=>ds bx x&&RJ P t f off|_=>false)
variable {t:TypeId}
theorem ah0{d:Array Field}{f:Nat}{c:Field}{i:TypeInfo}(e:P.underlying t=some (.struct d))(h:d[f]?=some c)(ak:P.info? c.type=some i)
  (j:i.size≠0)(b off:Nat):(Instr.fieldAt t (ptrTo b off) f).run P w=.ok (ptrTo b (off+c.offset)) w:=by
 simp only[Instr.fieldAt,Sem.run_bind,run_underlying e,Result.andThen_ok,h,Instr.sureAddr,ptrTo,fieldPlace,Go.sizeOf,typeInfo,run_program,ak,Sem.run_pure,Sem.run_ite,j,if_false,ni]
variable {d off:Nat}
theorem dR.addr(h:Rel P gl N g s a w){u b:Nat}{cs:List AV}(hd:cB N o d=true)(c:eH s.env d=true)(e:s.env.get u=some (.b cs))(ae:a.tmps[u]?=some (ptrTo b 0))
  (f:(execOp a.eval o).run P w=.ok (.value (ptrTo b off)) w):dR P gl N o g a w { s with env:=s.env.ins d (.a u off) }:=by
 simp only[cB,I9,beq_iff_eq,decide_eq_true_eq]at hd;refine⟨_,w,g,.inl f,ef.refl _ _,?_⟩;rw[hd.1];exact h.ahs c hd.2 e ae
variable {x:aI}
theorem ah1(h:Rel P gl N g s a w)(n:J0 P N o d x off=true)(he:aH gl s (.e3 d x off)=some s'):dR P gl N o g a w s':=by
 simp only[J0,I9]at n;obtain⟨hd,l⟩:=n;split at l
 ·rename_i t p f aA;simp only[I9]at l;obtain⟨ah,hk⟩:=l;unfold RJ at hk;split at hk
  ·rename_i z q;split at hk
   ·rename_i r u;simp only[I9,beq_iff_eq]at hk;obtain⟨rfl,hk⟩:=hk;split at hk
    ·rename_i i ak;simp at hk;have m:∀b c,a.eval p=ptrTo b c->(execOp a.eval o).run P w=.ok (.value (ptrTo b (c+r.offset))) w:=by
      intro b c e;simp only[execOp,aA,Sem.run_bind,e,ah0 q u ak hk,Result.andThen_ok,Sem.run_pure]
     simp only[aH]at he;split at he
     ·rename_i A c ao;obtain⟨b,cs,j,k,v,B⟩:=q9 h ah ao;split at he
      ·rename_i y;simp at he;subst he;exact .addr h hd y j k (m _ _ v)
      ·cases he
     ·rename_i id c ao;obtain⟨b,j,k⟩:=q9 h ah ao;exact .value h hd he (m _ _ k) (.ptr _ _ _ j) (uL _ _)
     ·rename_i cs ao;obtain⟨b,c,j,k⟩:=q9 h ah ao;split at he
      ·exact .value h hd he (m _ _ j) (.pure _ _ (.db _ _ _ (k.drop _))) (Cx _)
      ·cases he
     ·cases he
    ·cases hk
   ·cases hk
  ·cases hk
 ·cases l
def uM(P:Program)(t sz:Nat):Bool :=
 match P.underlying t with
 |some (.slice e)=>(match P.info? e with|some f=>f.size==sz|none=>false)|_=>false
def J1(P:Program)(N:Nat)(o:Oper)(d sz:Nat)(x i:aI):Bool:=cB N o d &&
 (match o.op with|.indexAddr t bx nX=>ds bx x&&ds nX i&&uM P t sz|_=>false)
variable {n:Int}
theorem RK{e:TypeId}{f:TypeInfo}(c:P.underlying t=some (.slice e))(ak:P.info? e=some f)(b off len cap:Nat)(k:IntKind)(h:0<=n)(i:n<len) :
  (Instr.indexAt t (.slice (some ⟨b,off,none⟩) len cap) (.int k n)).run P w=.ok (ptrTo b (off+n.toNat*f.size)) w:=by
 simp[Instr.indexAt,asIntOf,run_underlying c,h,i,Go.sizeOf,typeInfo,ak,ni,ptrTo]
variable {i:aI}
theorem ah2{sz:Nat}(h:Rel P gl N g s a w)(A:J1 P N o d sz x i=true)(he:aH gl s (.mw d sz x i)=some s'):dR P gl N o g a w s':=by
 simp only[J1,I9]at A;obtain⟨hd,c⟩:=A;split at c
 ·rename_i t H J aA;simp only[I9]at c;obtain⟨⟨ah,ak⟩,hk⟩:=c;unfold uM at hk;split at hk
  ·rename_i e B;split at hk
   ·rename_i f C;simp at hk;simp only[aH]at he;split at he
    ·rename_i own j xs k n l U;split at he
     ·rename_i ae;obtain⟨rfl,p,q⟩:=ae;obtain⟨u,D,E⟩:=bind_some he;obtain⟨base,cap,r,K,y⟩:=(c9 h ah l).yd;have z:=(c9 h ak U).jF;rcases y with rfl|⟨b,off,rfl,F⟩
      ·simp at D
      ·obtain⟨L,G⟩:=F.get _ _ D;refine .value h hd E (v:=ptrTo b (off+n.toNat*j)) ?_ (.pure _ _ (.db _ _ _ G)) (Cx _);simp only[execOp,aA,Sem.run_bind,r,z,RK B C b off _ cap k p q,Result.andThen_ok,Sem.run_pure,hk]
     ·cases he
    ·rename_i id off m j k n l U;split at he
     ·rename_i ae;obtain⟨rfl,p,q⟩:=ae;obtain⟨b,O,cap,r,_,_,_,y⟩:=(c9 h ah l).sj;have z:=(c9 h ak U).jF;refine .value h hd he (v:=ptrTo b (off+n.toNat*j)) ?_ (.ptr _ _ _ r) (fun _ _ _ h=>by simp at h);simp only[execOp,aA,Sem.run_bind,y,z,RK B C b off _ cap k p q,Result.andThen_ok,Sem.run_pure,hk]
     ·cases he
    ·cases he
   ·cases hk
  ·cases hk
 ·cases c
def J2(P:Program)(N:Nat)(o:Oper)(d:Nat)(x i:aI):Bool:=cB N o d &&
 (match o.op with|.index t bx nX=>ds bx x&&ds nX i&&(match P.underlying t with|some .string=>true|_=>false)|_=>false)
theorem ah3(l:List UInt8)(n:Nat):(ByteArray.mk l.toArray)[n]?=l[n]?:=by
 by_cases h:n<l.length
 ·have b:n<(ByteArray.mk l.toArray).size:=by simpa[ByteArray.size]using h
  rw[getElem?_pos _ n b,List.getElem?_eq_getElem h];rfl
 ·have b:¬n<(ByteArray.mk l.toArray).size:=by simpa[ByteArray.size]using h
  rw[getElem?_neg _ n b,List.getElem?_eq_none (by omega)]
theorem ah4(h:Rel P gl N g s a w)(c:J2 P N o d x i=true)(he:aH gl s (.idx d x i)=some s'):dR P gl N o g a w s':=by
 simp only[J2,I9]at c;obtain⟨hd,b⟩:=c;split at b
 ·rename_i t y z aA;simp only[I9]at b;obtain⟨⟨ah,ak⟩,hk⟩:=b;split at hk
  ·rename_i e;simp only[aH]at he;split at he
   ·rename_i l k n f U;split at he
    ·rename_i j;obtain⟨u,m,p⟩:=bind_some he;have q:=(c9 h ah f).lV.1;have r:=(c9 h ak U).jF;refine .value h hd p (v:=.int .u8 u.toNat) ?_ (.pure _ _ (.int _ _)) (oI _ _);simp only[execOp,aA,Sem.run_bind,q,r,Instr.index,asIntOf,Sem.run_pure,Result.andThen_ok,run_underlying e,j,if_true,ah3,m]
    ·cases he
   ·cases he
  ·cases hk
 ·cases b
def wF:Option Operand->Option aI->Bool
 |none,none=>true|some x,some y=>ds x y|_,_=>false
theorem FV{x:Value}{k:IntKind}{y:Nat}{b:BoundsCode}(ah:x=.int k n)(c:0<=n)(e:n<=y):(Instr.sliceBound x y b).run P w=.ok n.toNat w:=by
 subst ah;simp[Instr.sliceBound,asIntOf,c,e]
theorem J3(h:Rel P gl N g s a w){x:Option Operand}{y:Option aI}{c:Nat}(b:wF x y=true)(he:hC gl s.env c y=some n) :
  (x=none/\n=c)\/∃z k,x=some z/\a.eval z=.int k n:=by
 unfold wF at b;split at b
 ·simp only[hC]at he;simp at he;exact .inl ⟨rfl,he.symm⟩
 ·rename_i x y;simp only[hC]at he;split at he
  ·rename_i k m hm;simp at he;subst he;exact .inr ⟨x,k,rfl,(c9 h b hm).jF⟩
  ·cases he
 ·cases b
theorem Cy(h:Rel P gl N g s a w){bh ak:Option Operand}{j m:Option aI}{len cap:Nat}{l r:Int}(b:Bool)(p:wF bh j=true)(A:wF ak m=true)
  (q:hC gl s.env 0 j=some l)(c:hC gl s.env len m=some r)(u:0<=l)(D:l<=r)(U:r<=len)(E:len<=cap) :
  (Instr.sliceBounds b len cap (bh.map a.eval) (ak.map a.eval) none).run P w=.ok (l.toNat,r.toNat,cap) w:=by
 unfold Instr.sliceBounds;rcases J3 h A c with⟨rfl,v⟩|⟨z,k,rfl,y⟩
 ·rcases J3 h p q with⟨rfl,e⟩|⟨B,C,rfl,f⟩
  ·subst v e;simp
  ·subst v;simp[FV f u (show l<=((len:Nat):Int) by omega)]
 ·rcases J3 h p q with⟨rfl,e⟩|⟨B,C,rfl,f⟩
  ·subst e;simp[FV y (by omega) (show r<=((cap:Nat):Int) by omega)]
  ·simp[FV y (by omega) (show r<=((cap:Nat):Int) by omega),FV f u (show l<=((r.toNat:Nat):Int) by omega)]
end
section
variable {P:Program}{gl:cp}{N:Nat}{g:bo}{s s':an}{a:Act}{w:World}{o:Oper}
def FX(P:Program)(t:TypeId):Bool:=match P.underlying t with|some .string=>true|_=>false
variable {t:TypeId}
theorem RL(h:FX P t=true):P.underlying t=some .string:=by unfold FX at h;split at h<;>simp_all
def J4(P:Program)(N:Nat)(o:Oper)(d jg:Nat)(x:aI)(bh ak:Option aI):Bool:=cB N o d &&
 (match o.op with|.slice t bx wG nk none=>ds bx x&&wF wG bh&&wF nk ak&&(if jg=0 then FX P t else uM P t jg)|_=>false)
theorem ah7(l:List UInt8)(i j:Nat):(ByteArray.mk l.toArray).extract i j=ByteArray.mk ((l.take j).drop i).toArray:=by
 apply ByteArray.ext;simp only[ByteArray.data_extract];apply Array.ext';simp[List.drop_take]
variable {bh ak:Option Value}{i j:Nat}
theorem ah8{l:List UInt8}(b:P.underlying t=some .string)(ae:(Instr.sliceBounds false l.length l.length bh ak none).run P w=.ok (i,j,l.length) w) :
  (Instr.sliceAt t (.string ⟨l.toArray⟩) bh ak none).run P w=.ok (.string ⟨((l.take j).drop i).toArray⟩) w:=by
 have e:(ByteArray.mk l.toArray).size=l.length:=by simp[ByteArray.size]
 simp only[Instr.sliceAt,Sem.run_bind,run_underlying b,Result.andThen_ok,Instr.slice,Option.isSome_none,Bool.false_eq_true,if_false,e,ae,Sem.run_pure,ah7]
variable {base:Option Addr}{cap:Nat}
theorem J5{e:TypeId}{f:TypeInfo}{len:Nat}(b:P.underlying t=some (.slice e))(c:P.info? e=some f)
  (ae:(Instr.sliceBounds true len cap bh ak none).run P w=.ok (i,j,cap) w) :
  (Instr.sliceAt t (.slice base len cap) bh ak none).run P w=.ok (.slice (if cap=i then base else base.map (·.add (i*f.size))) (j-i) (cap-i)) w:=by
 simp only[Instr.sliceAt,Sem.run_bind,run_underlying b,Result.andThen_ok,Instr.slice,ae,Sem.run_pure,Go.sizeOf,typeInfo,run_program,c]
variable {γ:e4}{sz:Nat}{xs:List AV}{n:Nat}
theorem df.Af{b off:Nat}(c:n=xs.length)(d:xs.length<=M)(e:xs.length<=cap)(U:eI γ b off sz xs):df γ (.list none sz xs) (.slice (some ⟨b,off,none⟩) n cap):=by
 subst c;exact .list _ _ _ _ _ d e U
theorem df.J6(ah:xs=[])(b:n=0)(ae:base=none->cap=0):df γ (.list none sz xs) (.slice base n cap):=by
 subst ah;subst b;exact .jD _ _ _ ae
variable {d:Nat}{x:aI}
theorem ah9{C:Nat}{bh ak:Option aI}(h:Rel P gl N g s a w)(J:J4 P N o d C x bh ak=true)(he:aH gl s (.pq d C x bh ak)=some s'):dR P gl N o g a w s':=by
 simp only[J4,I9]at J;obtain⟨hd,D⟩:=J;split at D
 ·rename_i t bx wG nk aA;simp only[I9]at D;obtain⟨⟨⟨ah,E⟩,F⟩,hk⟩:=D;simp only[aH]at he;split at he
  ·rename_i l c;split at he
   ·rename_i i j k m;split at he
    ·rename_i ae;obtain⟨p,q,U,y⟩:=ae;simp only[p,if_true]at hk;have r:=RL hk;have K:=(c9 h ah c).lV;have u:=Cy (P:=P) (w:=w) h false E F k m q U y (Nat.le_refl _);refine .value h hd he ?_ (.pure _ _ (.str ((l.take j.toNat).drop i.toNat) ?_)) (yc _)
     ·simp only[execOp,aA,TH,Sem.run_bind,K.1,ah8 r u,Result.andThen_ok,Sem.run_pure]
     ·have:=K.2;simp;omega
    ·cases he
   ·cases he
  ·rename_i own sz xs c;split at he
   ·rename_i i j k m;split at he
    ·rename_i ae;obtain⟨p,z,q,U,y⟩:=ae;subst p;simp only[z,if_false]at hk;unfold uM at hk;split at hk
     ·rename_i e r;split at hk
      ·rename_i f A;simp at hk;obtain⟨base,cap,G,V,W⟩:=(c9 h ah c).yd;have X:xs.length<=cap:=V.2;have u:=Cy (P:=P) (w:=w) h true E F k m q U y X;refine .value h hd he (v:=.slice (if cap=i.toNat then base else base.map (·.add (i.toNat*f.size))) (j.toNat-i.toNat) (cap-i.toNat)) ?_ ?_ (cP.none _ _)
       ·simp only[execOp,aA,TH,Sem.run_bind,G,J5 r A u,Result.andThen_ok,Sem.run_pure]
       ·have B:((xs.take j.toNat).drop i.toNat).length=j.toNat-i.toNat:=by simp;omega
        by_cases L:j.toNat=i.toNat
        ·have Y:=bb.ahT (G▸c9 h ah c);exact .pure _ _ (.J6 (by apply List.eq_nil_of_length_eq_zero;omega) (by omega) (by
          intro ae;split at ae
          ·omega
          ·rw[Y (by simpa using ae)];omega))
        ·rcases W with rfl|⟨b,off,rfl,Z⟩
         ·simp at y;omega
         ·have cc:¬cap=i.toNat:=by omega
          simp only[cc,if_false,Option.map_some,ni,hk];exact .pure _ _ (.Af B.symm (by simp;omega) (by omega) ((Z.take _).drop _))
      ·cases hk
     ·cases hk
    ·cases he
   ·cases he
  ·rename_i sz c;split at he
   ·rename_i i j k m;split at he
    ·rename_i ae;obtain⟨p,z,q,U⟩:=ae;subst p q U;simp only[z,if_false]at hk;unfold uM at hk;split at hk
     ·rename_i e r;split at hk
      ·rename_i f A;have G:=(c9 h ah c).tk;have u:=Cy (P:=P) (w:=w) (len:=0) (cap:=0) h true E F k m (by omega) (by omega) (by omega) (by omega);refine .value h hd he (v:=.slice none 0 0) ?_ (.pure _ _ (.aV _)) (fun _ _ _ h=>by simp at h);simp only[execOp,aA,TH,Sem.run_bind,G,J5 r A u,Result.andThen_ok,Sem.run_pure];simp
      ·cases hk
     ·cases hk
    ·cases he
   ·cases he
  ·rename_i id off n sz c;split at he
   ·rename_i i j k m;split at he
    ·rename_i ae;obtain⟨p,z,q,U,y⟩:=ae;subst p;simp only[z,if_false]at hk;unfold uM at hk;split at hk
     ·rename_i e r;split at hk
      ·rename_i f A;simp at hk;obtain⟨b,O,cap,Q,R,S,bI,er⟩:=(c9 h ah c).sj;have u:=Cy (P:=P) (w:=w) h true E F k m q U y bI;have T:(execOp a.eval o).run P w=.ok (.value (.slice (if cap=i.toNat then some ⟨b,off,none⟩else(some (⟨b,off,none⟩:Addr)).map (·.add (i.toNat*f.size))) (j.toNat-i.toNat) (cap-i.toNat))) w:=by
        simp only[execOp,aA,TH,Sem.run_bind,er,J5 r A u,Result.andThen_ok,Sem.run_pure]
       split at he
       ·rename_i L;exact .value h hd he T (.pure _ _ (.J6 rfl (by omega) (by intro ae;split at ae<;>simp at ae))) (cP.none _ _)
       ·rename_i L;refine .value h hd he T ?_ (fun _ _ _ h=>by simp at h);by_cases H:cap=i.toNat
        ·have J8:i=0:=by omega
         subst J8;simp only[Int.toNat_zero]at H;subst H;simpa using bb.bs id off (j.toNat) C b O 0 Q R S (by omega)
        ·simp only[H,if_false,Option.map_some,ni,hk];refine bb.bs id _ _ C b O (cap-i.toNat) Q R ?_ (by omega);rw[<-S,Nat.add_assoc,<-Nat.add_mul];congr 2;omega
      ·cases hk
     ·cases hk
    ·cases he
   ·cases he
  ·cases he
 ·cases D
theorem cr.aia{cs:List AV}{ws:List Value}(h:cr g cs ws)(b:cs.all AV.one=true):∀v∈ws,v.oneCell'=true:=by
 induction ws generalizing cs with
 |nil=>simp|cons v ws ih=>cases h with
  |cons c cs _ _ f k =>
   simp only[List.all_cons,I9]at b;intro u e;rcases List.mem_cons.1 e with rfl|e
   ·cases f with
    |pure _ _ ao=>cases ao<;>first|rfl|simp[AV.one]at b
    |own _ _ _ _ ao=>cases ao<;>rfl|ptr=>rfl|map=>rfl|bs=>rfl|lb=>rfl|fn=>rfl|agg=>simp[AV.one]at b|a8=>simp[AV.one]at b
   ·exact ih k b.2 u e
theorem bb.cells{x:AV}{v:Value}(h:bb g x v)(ah:x.cells.all AV.one=true):cr g x.cells v.cells.toList/\(∀u∈v.cells.toList,u.oneCell'=true):=by
 by_cases b:∃cs,x=.agg cs
 ·obtain⟨cs,rfl⟩:=b;obtain⟨ws,rfl,f,k⟩:=h.nW;exact⟨by simpa[AV.cells,Value.cells]using f,by simpa[Value.cells]using k⟩
 ·have e:x.cells=[x]:=by cases x<;>first|rfl|exact absurd ⟨_,rfl⟩ b
  rw[e]at ah ⊢;have l:v.cells=#[v]:=by
   cases h with
   |pure _ _ ao=>cases ao<;>first|rfl|exact absurd ⟨_,rfl⟩ b
   |own _ _ _ _ ao=>cases ao<;>rfl|ptr=>rfl|map=>rfl|bs=>rfl|lb=>rfl|fn=>rfl|agg=>exact absurd ⟨_,rfl⟩ b|a8=>rfl
  rw[l];have c:cr g [x] [v]:=.cons _ _ _ _ h .nil;exact⟨c,c.aia ah⟩
def J9(N:Nat)(o:Oper)(d:Nat)(kl:Bool)(x y:aI):Bool:=cB N o d &&
 (match si o.op with|some (b,[bx,gR],_)=>ds bx x&&ds gR y&&(match b with|.max=>kl|.min=>!kl|_=>false)|_=>false)
theorem aib{kl:Bool}{y:aI}(h:Rel P gl N g s a w)(e:J9 N o d kl x y=true)(he:aH gl s (.mx d kl x y)=some s'):dR P gl N o g a w s':=by
 simp only[J9,I9]at e;obtain⟨hd,c⟩:=e;split at c
 ·rename_i b u z bu aA;obtain⟨A,p⟩:=uH (o:=o) aA rfl a.eval;simp only[I9]at c;obtain⟨⟨ah,q⟩,hk⟩:=c;simp only[aH]at he;split at he
  ·rename_i k m B n r U;have f:=(c9 h ah r).jF;have l:=(c9 h q U).jF;refine .value h hd he (v:=.int k (if kl=true then(if n>m then n else m)else(if n<m then n else m))) ?_ (.pure _ _ (.int _ _)) (oI _ _);rw[p];split at hk
   ·subst hk;simp[builtin,f,l,Builtin.max_,Builtin.max2]
   ·simp at hk;subst hk;simp[builtin,f,l,Builtin.min_,Builtin.min2]
   ·cases hk
  ·cases he
 ·cases c
def Ka(N:Nat)(o:Oper)(d:Nat)(x:aI):Bool:=cB N o d&&(match o.op with|.nilCheck bx=>ds bx x|_=>false)
theorem aic(h:Rel P gl N g s a w)(y:Ka N o d x=true)(he:aH gl s (.ha d x)=some s'):dR P gl N o g a w s':=by
 simp only[Ka,I9]at y;obtain⟨hd,l⟩:=y;split at l
 ·rename_i z aA;have m:∀b p,a.eval z=ptrTo b p->(execOp a.eval o).run P w=.ok (.value (ptrTo b p)) w:=by
   intro b p e;simp[execOp,aA,e,ptrTo]
  simp only[aH]at he;split at he
  ·rename_i n;have A:z=.tmp n:=by unfold ds at l;split at l<;>simp_all
   subst A;split at he
   ·rename_i cs c;obtain⟨b,f,k⟩:=h.env _ _ c;split at he
    ·rename_i q;simp at he;subst he;exact .addr h hd q c f (m _ _ (by simp[Act.eval,f]))
    ·cases he
   ·rename_i t off c;obtain⟨⟨cs,B⟩,b,f,k⟩:=h.env _ _ c;split at he
    ·rename_i q;simp at he;subst he;exact .addr h hd q B k (m _ _ (by simp[Act.eval,f]))
    ·cases he
   ·rename_i id off c;obtain⟨v,f,k,_⟩:=h.env _ _ c;obtain⟨b,r,u⟩:=k.sh;exact .value h hd he (m _ _ (by simp[Act.eval,f,u])) (u▸k) (uL _ _)
   ·rename_i cs c;obtain⟨v,f,k,_⟩:=h.env _ _ c;obtain⟨b,off,r,u⟩:=k.RF;exact .value h hd he (m _ _ (by simp[Act.eval,f,r])) (r▸k) (Cx _)
   ·cases he
  ·cases he
 ·cases l
theorem aid(f:Nat)(cs:List AV):cP (.fn f cs):=fun _ _ _ h=>by simp at h
def Kb(N:Nat)(o:Oper)(d f:Nat)(gx:List aI):Bool:=cB N o d &&
 (match o.op with|.makeFunc (.func ib) first Cz=>ib==f&&first.size==0&&jh Cz.toList gx|_=>false)
theorem aie{f:Nat}{gx:List aI}(h:Rel P gl N g s a w)(m:Kb N o d f gx=true)(he:aH gl s (.oF d f gx)=some s'):dR P gl N o g a w s':=by
 simp only[Kb,I9]at m;obtain⟨hd,b⟩:=m;split at b
 ·rename_i p first c aA
  simp only[I9,beq_iff_eq]at b;obtain⟨⟨rfl,r⟩,u⟩:=b;have k:first=#[]:=Array.eq_empty_of_size_eq_zero r
  subst k;obtain⟨vs,y,l⟩:=bind_some he;split at l
  ·have q:=(uD h u y).aW;refine .value h hd l (v:=.func (.func p) #[] (c.toList.map a.eval).toArray) ?_ (.fn _ _ _ q) (aid _ _);have e:(List.map a.eval c.toList).toArray=c.map a.eval:=by apply Array.ext';simp
   simp only[execOp,aA,Sem.run_bind,Instr.makeFunc,Sem.run_pure,Result.andThen_ok,e];simp
  ·cases l
 ·cases b
end
end AM
