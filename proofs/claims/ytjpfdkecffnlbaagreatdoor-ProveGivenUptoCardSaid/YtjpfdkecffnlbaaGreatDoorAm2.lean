/- An abstract machine for the program of the seat, and what of the given program it does, part 3 of 17. Conditions: none. -/
import Derived.Test.YtjpfdkecffnlbaaGreatDoorAm1
import Derived.Laws.Cells
set_option linter.unusedVariables false
set_option linter.unusedSimpArgs false
/-! The simulation of lengths, addresses, loads, strings and slices. -/
namespace AM
open Go
section
variable {P:Program} {gl:aR} {N:Nat} {g:a5} {s s':ae} {a:Act} {w:World} {o:Oper}
theorem iX (b off j:Nat):(⟨b,off,none⟩:Addr).add j=⟨b,off+j,none⟩:=by unfold Addr.add;split<;>simp_all
theorem aU.BN {cs:List AV} {v:Value} (h:aU g (.bw cs) v):∃ws,v=.tuple ws.toArray∧bW g cs ws:=by
 cases h with
 | pure _ _ h=>cases h
 | bw _ ws h=>exact ⟨ws,rfl,h⟩
theorem aU.p7 {own:Option Nat} {sz:Nat} {xs:List AV} {v:Value} (h:aU g (.list own sz xs) v) :
  ∃base cap,v=.slice base xs.length cap∧(xs.length≤M∧xs.length≤cap)∧(xs=[]∨∃b off,base=some ⟨b,off,none⟩∧dd g.γ b off sz xs):=by
 have key:cp g.γ (.list none sz xs) v→∃base cap,v=.slice base xs.length cap∧(xs.length≤M∧xs.length≤cap)∧(xs=[]∨∃b off,base=some ⟨b,off,none⟩∧dd g.γ b off sz xs):=by
  intro h
  cases h with
  | fP _ base cap _=>exact ⟨base,cap,rfl,by simp,.inl rfl⟩
  | list b off cap _ _ R lE aa=>exact ⟨_,cap,rfl,⟨R,lE⟩,.inr ⟨b,off,rfl,aa⟩⟩
 cases h with
 | pure _ _ h =>
  cases own with
  | none=>exact key h
  | some e=>cases h
 | own _ _ _ _ h=>exact key h
theorem aU.LL {cs:List AV} {v:Value} (h:aU g (.cU cs) v):∃b off,v=ptrTo b off∧dt g.γ b off cs:=by
 cases h with
 | pure _ _ h=>cases h with | cU b off _ h=>exact ⟨b,off,rfl,h⟩
theorem dd.get {γ:dp} {b sz:Nat}:∀{xs:List AV} {off:Nat},dd γ b off sz xs→∀(i:Nat) x,xs[i]?=some x→x.cells.length=sz∧dt γ b (off+i*sz) x.cells
 | [],_,_,i,x,ai=>by simp at ai
 | y::ys,off,.cons _ _ _ _ _ R aa al,i,x,ai=>by
  cases i with
  | zero=>simp at ai;subst ai;simpa using ⟨R,aa⟩
  | succ i =>
   obtain ⟨aG,aJ⟩:=dd.get al i x (by simpa using ai)
   refine ⟨aG,?_⟩
   have:off+(i+1)*sz=off+sz+i*sz:=by rw [Nat.add_mul];omega
   rw [this];exact aJ
theorem dd.drop {γ:dp} {b sz:Nat}:∀(n:Nat) {xs:List AV} {off:Nat},dd γ b off sz xs→dd γ b (off+n*sz) sz (xs.drop n)
 | 0,_,_,h=>by simpa using h
 | n+1,[],_,_=>by simpa using dd.nil _ _ _
 | n+1,y::ys,off,.cons _ _ _ _ _ R aa al=>by
  have:=dd.drop n al
  have e:off+(n+1)*sz=off+sz+n*sz:=by rw [Nat.add_mul];omega
  rw [e];simpa using this
theorem dd.take {γ:dp} {b sz:Nat}:∀(n:Nat) {xs:List AV} {off:Nat},dd γ b off sz xs→dd γ b off sz (xs.take n)
 | 0,_,_,_=>by simpa using dd.nil _ _ _
 | n+1,[],_,_=>by simpa using dd.nil _ _ _
 | n+1,y::ys,off,.cons _ _ _ _ _ R aa al=>by simpa using dd.cons _ _ _ _ _ R aa (dd.take n al)
theorem dt.drop {γ:dp} {b:Nat}:∀(n:Nat) {xs:List AV} {off:Nat},dt γ b off xs→dt γ b (off+n) (xs.drop n)
 | 0,_,_,h=>by simpa using h
 | n+1,[],_,_=>by simpa using dt.nil _ _
 | n+1,y::ys,off,.cons _ _ _ _ v R aa al aY=>by
  have:=dt.drop n aY
  have e:off+(n+1)=off+1+n:=by omega
  rw [e];simpa using this
theorem dt.take {γ:dp} {b:Nat}:∀(n:Nat) {xs:List AV} {off:Nat},dt γ b off xs→dt γ b off (xs.take n)
 | 0,_,_,_=>by simpa using dt.nil _ _
 | n+1,[],_,_=>by simpa using dt.nil _ _
 | n+1,y::ys,off,.cons _ _ _ _ v R aa al aY=>by simpa using dt.cons _ _ _ _ v R aa al (dt.take n aY)
def BO (N:Nat) (o:Oper) (d x i:Nat):Bool:=b2 N o d&&(match o.op with | .extract (.tmp t) j=>t==x&&j==i | _=>false)
theorem Yh {d x i:Nat} (h:Rel P gl N g s a w) (af:BO N o d x i=true) (he:au gl s (.ext d x i)=some s'):cJ P gl N o g a w s':=by
 simp only [BO,Bool.and_eq_true] at af
 obtain ⟨aw,aD⟩:=af
 split at aD
 ·rename_i t j aE
  simp at aD;obtain ⟨rfl,rfl⟩:=aD
  simp only [au] at he
  split at he
  ·rename_i vs ax
   obtain ⟨u,R,aa⟩:=bind_some he
   obtain ⟨v,aG,aJ,_⟩:=h.env _ _ ax
   obtain ⟨ws,rfl,q⟩:=aJ.BN
   obtain ⟨x,an,ar⟩:=q.get.2 _ _ R
   exact .value h aw aa (v:=x) (by simp [execOp,aE,Act.eval,aG,Instr.extract,an]) ar.aL (cc.aL u)
  ·cases he
 ·cases aD
def m3 (op:Op):Option (Builtin×List Operand×List TypeId) :=
 match op with
 | .call c=>match c.callee with
  | .builtin b=>some (b,c.args.toList,c.argTypes.toList)
  | _=>none
 | _=>none
theorem m4 {op:Op} {b:Builtin} {xs:List Operand} {bk:List TypeId} (h:m3 op=some (b,xs,bk)) (aE:o.op=op) (au:Operand→Value) :
  ∃consts,execOp au o=builtin b bk.toArray o.type consts (xs.map au).toArray:=by
 unfold m3 at h
 split at h
 ·rename_i c
  split at h
  ·rename_i bE af
   simp at h;obtain ⟨rfl,rfl,rfl⟩:=h
   have e:(List.map au c.args.toList).toArray=c.args.map au:=by apply Array.ext';simp
   simp only [execOp,aE,resolve,af,pure_bind,invoke,e,Array.toArray_toList]
   exact ⟨_,rfl⟩
  ·cases h
 ·cases h
def rl (P:Program) (m:Nat) (t:TypeId):Bool:=match P.underlying t with | some .string=>m==0 | some (.slice _)=>m==1 | some (.map _ _)=>m==2 | _=>false
theorem Yi {t:TypeId} (h:rl P 0 t=true):P.underlying t=some .string:=by unfold rl at h;split at h<;>simp_all
theorem yg {t:TypeId} (h:rl P 1 t=true):∃e,P.underlying t=some (.slice e):=by unfold rl at h;split at h<;>simp_all
theorem LM {t:TypeId} (h:rl P 2 t=true):∃k e,P.underlying t=some (.map k e):=by unfold rl at h;split at h<;>simp_all
theorem aU.BP {v:Value} (h:aU g .eN v):v=.map none:=by
 cases h with
 | pure _ _ h=>cases h;rfl
theorem aU.BQ {sz:Nat} {v:Value} (h:aU g (.eE sz) v):∃base cap,v=.slice (some base) 0 cap:=by
 cases h with
 | pure _ _ h=>cases h with | eE _ base cap=>exact ⟨base,cap,rfl⟩
theorem aU.Yj {own:Option Nat} {sz n cap:Nat} {base:Option Addr} {xs:List AV} (h:aU g (.list own sz xs) (.slice base n cap)):base=none→cap=0:=by
 cases h with
 | pure _ _ h=>cases h with
  | fP _ _ _ h=>exact h
  | list=>simp
 | own _ _ _ _ h=>cases h with
  | fP _ _ _ h=>exact h
  | list=>simp
theorem aU.m5 {sz:Nat} {v:Value} (h:aU g (.aH sz) v):v=.slice none 0 0:=by
 cases h with
 | pure _ _ h=>cases h;rfl
theorem aU.oX {id:Nat} {v:Value} (h:aU g (.map id) v):∃b,g.b4 id=some b∧v=.map (some b):=by
 cases h with
 | pure _ _ h=>cases h
 | map _ b ah=>exact ⟨b,ah,rfl⟩
theorem aU.oY {id off n sz:Nat} {v:Value} (h:aU g (.bI id off n sz) v):∃b k cap,g.b4 id=some b∧g.b4 (id+1)=some k∧off+cap*sz=k∧n≤cap∧v=.slice (some ⟨b,off,none⟩) n cap:=by
 cases h with
 | pure _ _ h=>cases h
 | bI _ _ _ _ b k cap R aa al aY=>exact ⟨b,k,cap,R,aa,al,aY,rfl⟩
theorem Yk {b:Nat} {o:Obj} (h:w.heap[b]?=some o) (aE:∀c e f,o≠.cells c e f):(getObj b).run P w=.ok o w:=by
 show (Sem.getObj b Sem.pure).run P w=.ok o w
 simp only [Sem.run,h]
theorem Yl {t ty:TypeId} (hu:P.underlying t=some .string) (l:List UInt8):(Builtin.len_ #[t] ty #[.string ⟨l.toArray⟩]).run P w=.ok (.int .i64 l.length) w:=by
 have:(ByteArray.mk l.toArray).size=l.length:=by simp [ByteArray.size]
 simp only [Builtin.len_,List.getElem?_toArray,List.getElem?_cons_zero,Sem.run_bind,run_underlying hu,Result.andThen_ok,Sem.run_pure,goInt,this]
theorem yh {t ty e:TypeId} (hu:P.underlying t=some (.slice e)) (base:Option Addr) (n cap:Nat):(Builtin.len_ #[t] ty #[.slice base n cap]).run P w=.ok (.int .i64 n) w:=by
 simp only [Builtin.len_,List.getElem?_toArray,List.getElem?_cons_zero,Sem.run_bind,run_underlying hu,Result.andThen_ok,Sem.run_pure,goInt]
def BR (P:Program) (N:Nat) (o:Oper) (d m:Nat) (x:aq):Bool:=b2 N o d &&
 (match m3 o.op with | some (.len,[a9],[t])=>cA a9 x&&rl P m t | _=>false)
theorem Ym {d m:Nat} {x:aq} (h:Rel P gl N g s a w) (af:BR P N o d m x=true) (he:au gl s (.len d m x)=some s'):cJ P gl N o g a w s':=by
 simp only [BR,Bool.and_eq_true] at af
 obtain ⟨aw,aD⟩:=af
 split at aD
 ·rename_i a9 t aE
  obtain ⟨nZ,bM⟩:=m4 (o:=o) aE rfl a.eval
  simp only [Bool.and_eq_true] at aD
  obtain ⟨ai,hu⟩:=aD
  simp only [au] at he
  split at he
  ·rename_i own sz xs ax
   split at he
   ·rename_i il;subst il
    obtain ⟨e,hu⟩:=yg hu
    obtain ⟨base,cap,cF,_⟩:=(ca h ai ax).p7
    refine .value h aw he (v:=.int .i64 xs.length) ?_ (.pure _ _ (.int _ _)) (k0 _ _)
    rw [bM];simp only [builtin,List.map_cons,List.map_nil,cF,Sem.run_bind,yh hu,Result.andThen_ok,Sem.run_pure]
   ·cases he
  ·rename_i l ax
   split at he
   ·rename_i il;subst il
    have hu:=Yi hu
    have cF:=(ca h ai ax).jC.1
    refine .value h aw he (v:=.int .i64 l.length) ?_ (.pure _ _ (.int _ _)) (k0 _ _)
    rw [bM];simp only [builtin,List.map_cons,List.map_nil,cF,Sem.run_bind,Yl hu,Result.andThen_ok,Sem.run_pure]
   ·cases he
  ·split at he
   ·rename_i ax il;subst il
    obtain ⟨_,e,hu⟩:=LM hu
    have cF:=(ca h ai ax).BP
    refine .value h aw he (v:=.int .i64 0) ?_ (.pure _ _ (.int _ _)) (k0 _ _)
    rw [bM];simp only [builtin,List.map_cons,List.map_nil,cF,Builtin.len_,List.getElem?_toArray,List.getElem?_cons_zero,Sem.run_bind,run_underlying hu,Result.andThen_ok,Sem.run_pure,goInt]
   ·cases he
  ·split at he
   ·rename_i ax il;subst il
    obtain ⟨e,hu⟩:=yg hu
    have cF:=(ca h ai ax).m5
    refine .value h aw he (v:=.int .i64 0) ?_ (.pure _ _ (.int _ _)) (k0 _ _)
    rw [bM];simp only [builtin,List.map_cons,List.map_nil,cF,Sem.run_bind,yh hu,Result.andThen_ok,Sem.run_pure];rfl
   ·cases he
  ·split at he
   ·rename_i ax il;subst il
    obtain ⟨e,hu⟩:=yg hu
    obtain ⟨base,cap,cF⟩:=(ca h ai ax).BQ
    refine .value h aw he (v:=.int .i64 0) ?_ (.pure _ _ (.int _ _)) (k0 _ _)
    rw [bM];simp only [builtin,List.map_cons,List.map_nil,cF,Sem.run_bind,yh hu,Result.andThen_ok,Sem.run_pure];rfl
   ·cases he
  ·split at he
   ·rename_i ax il;subst il
    obtain ⟨e,hu⟩:=yg hu
    obtain ⟨b,k,cap,_,_,_,_,cF⟩:=(ca h ai ax).oY
    refine .value h aw he (v:=.int .i64 _) ?_ (.pure _ _ (.int _ _)) (k0 _ _)
    rw [bM];simp only [builtin,List.map_cons,List.map_nil,cF,Sem.run_bind,yh hu,Result.andThen_ok,Sem.run_pure]
   ·cases he
  ·split at he
   ·rename_i ax il;subst il
    split at he
    ·rename_i n es bG
     obtain ⟨_,e,hu⟩:=LM hu
     obtain ⟨b,ah,cF⟩:=(ca h ai ax).oX
     obtain ⟨bE,eb,arr,aG,aJ,⟨b9,bf,bu,b5⟩,dV⟩:=h.heap _ _ bG
     rw [ah] at eb;simp at eb;subst eb
     have ea:arr.size=es.length:=by rw [←bf.length_eq,bu];simp
     refine .value h aw he (v:=.int .i64 es.length) ?_ (.pure _ _ (.int _ _)) (k0 _ _)
     rw [bM];simp [builtin,cF,Builtin.len_,run_underlying hu,goInt,Yk aG (by simp),ea]
    ·cases he
   ·cases he
  ·cases he
 ·cases aD
def s3 (P:Program) (g:a5) (s:ae) (a:Act) (w:World) (v:Value):iD→Prop
 | .cV t off=>∃b cs,s.env.get t=some (.b cs)∧a.tmps[t]?=some (ptrTo b 0)∧v=ptrTo b off∧gB P g w b (.cV t) (.lD t) cs
 | .ao id off=>∃b,g.b4 id=some b∧v=ptrTo b off
 | .fl cs=>∃b off,v=ptrTo b off∧dt g.γ b off cs
theorem mm (h:Rel P gl N g s a w) {y:Operand} {x:aq} {p:iD} (af:cA y x=true) (he:dn gl s.env x=some p):s3 P g s a w (a.eval y) p:=by
 unfold dn at he
 split at he
 ·rename_i n
  have aT:y=.tmp n:=by unfold cA at af;split at af<;>simp_all
  subst aT
  split at he
  ·rename_i cs a1
   simp at he;subst he
   obtain ⟨b,aG,aJ⟩:=h.env _ _ a1
   exact ⟨b,cs,a1,aG,by simp [Act.eval,aG],aJ⟩
  ·rename_i t off a1
   simp at he;subst he
   obtain ⟨⟨cs,hu⟩,b,aG,aJ⟩:=h.env _ _ a1
   obtain ⟨bE,an,ar⟩:=h.env _ _ hu
   rw [aJ] at an;simp [ptrTo] at an;subst an
   exact ⟨b,cs,hu,aJ,by simp [Act.eval,aG],ar⟩
  ·rename_i id off a1
   simp at he;subst he
   obtain ⟨v,aG,aJ,_⟩:=h.env _ _ a1
   obtain ⟨b,an,ar⟩:=aJ.m2
   exact ⟨b,an,by simp [Act.eval,aG,ar]⟩
  ·rename_i cs a1
   simp at he;subst he
   obtain ⟨v,aG,aJ,_⟩:=h.env _ _ a1
   obtain ⟨b,off,an,ar⟩:=aJ.LL
   exact ⟨b,off,by simp [Act.eval,aG,an],ar⟩
  ·cases he
 ·rename_i n
  have aT:y=.global n:=by unfold cA at af;split at af<;>simp_all
  subst aT
  split at he
  ·rename_i cs a1
   simp at he;subst he
   have:=h.e4 _ _ a1
   cases this with
   | cU b off _ bc=>exact ⟨n,0,rfl,bc⟩
  ·cases he
 ·cases he
def BS (g:a5) (w:World) (b off:Nat) (cs:List AV):Prop :=
 ∃ws:List Value,ws.length=cs.length∧bW g cs ws∧(∀v∈ws,v.oneCell'=true)∧∀j v,ws[j]?=some v→w.cell? ⟨b,off+j,none⟩=some v
theorem bW.yi {ws:List Value}:∀{cs:List AV},ws.length=cs.length→(∀(i:Nat) c v,cs[i]?=some c→ws[i]?=some v→aU g c v)→bW g cs ws:=by
 induction ws with
 | nil=>intro cs h _;cases cs with | nil=>exact .nil | cons=>simp at h
 | cons w ws ih =>
  intro cs h bc
  cases cs with
  | nil=>simp at h
  | cons c cs=>exact .cons _ _ _ _ (bc 0 c w (by simp) (by simp)) (ih (by simpa using h) fun i c v af ax=>bc (i+1) c v (by simpa using af) (by simpa using ax))
theorem gB.cells {b:Nat} {ow:dh} {oc:Nat→dh} {cs:List AV} (h:gB P g w b ow oc cs) {off n:Nat}:BS g w b off ((cs.drop off).take n):=by
 obtain ⟨arr,ty,R,aa,al,aY,bn⟩:=h
 generalize dy:arr.toList.take cs.length=L
 have aN:L.length=cs.length:=by rw [←dy];simp;omega
 have hh:∀(i:Nat) v,L[i]?=some v→arr[i]?=some v:=fun i v ax=>by
  rw [←dy,List.getElem?_take] at ax
  split at ax
  ·simpa using ax
  ·cases ax
 refine ⟨(L.drop off).take n,by simp [aN],.yi (by simp [aN]) fun i c v af ax=>?_,fun v ax=>?_,fun j v ax=>?_⟩
 ·rw [List.getElem?_take] at af ax
  split at af
  ·rw [List.getElem?_drop] at af
   rename_i av;rw [if_pos av,List.getElem?_drop] at ax
   obtain ⟨bP,aG,_,bo,_⟩:=bn _ _ af
   have ax:=hh _ _ ax;rw [aG] at ax;simp at ax;subst ax;exact bo
  ·cases af
 ·obtain ⟨i,av,Yn⟩:=List.getElem_of_mem ax
  have n0:((L.drop off).take n)[i]?=some v:=by rw [List.getElem?_eq_getElem av,Yn]
  rw [List.getElem?_take] at n0
  split at n0
  ·rw [List.getElem?_drop] at n0
   have bz:off+i<cs.length:=by have:=(List.getElem?_eq_some_iff.1 n0).1;omega
   obtain ⟨bP,aG,aJ,_⟩:=bn (off+i) cs[off+i] (by simp [bz])
   have n0:=hh _ _ n0;rw [aG] at n0;simp at n0;subst n0;exact aJ
  ·cases n0
 ·rw [List.getElem?_take] at ax
  split at ax
  ·rw [List.getElem?_drop] at ax
   rw [cell_of_row w b _ arr ty (0,0) R];exact hh _ _ ax
  ·cases ax
theorem dt.LN {g:a5} {w:World} (jZ:∀b off v,g.γ b off=some v→w.cell? ⟨b,off,none⟩=some v):∀{cs:List AV} {b off:Nat},dt g.γ b off cs→BS g w b off cs
 | [],_,_,_=>⟨[],rfl,.nil,by simp,by simp⟩
 | c::cs,b,off,.cons _ _ _ _ v R aa al aY=>by
  obtain ⟨ws,an,ar,aO,bD⟩:=dt.LN jZ aY
  refine ⟨v::ws,by simp [an],.cons _ _ _ _ (.pure _ _ al) ar,by simpa [aa] using aO,fun j u hu=>?_⟩
  cases j with
  | zero=>simp at hu;subst hu;exact jZ _ _ _ R
  | succ j=>have:=bD j u (by simpa using hu);rw [←this];congr 2;omega
theorem LO (h:Rel P gl N g s a w) {v:Value} {p:iD} (ao:s3 P g s a w v p) {n:Nat} {cs:List AV} (aA:aV s n p=some cs):∃b off,v=ptrTo b off∧BS g w b off cs∧cs.length=n:=by
 cases p with
 | cV t off =>
  obtain ⟨b,cG,aG,aJ,bo,cd⟩:=ao
  simp only [aV,aG] at aA
  split at aA
  ·rename_i a1
   simp at aA;subst aA
   exact ⟨b,off,bo,cd.cells,by simp;omega⟩
  ·cases aA
 | ao id off =>
  obtain ⟨b,aG,aJ⟩:=ao
  simp only [aV] at aA
  split at aA
  ·rename_i cG bG
   obtain ⟨bE,an,ar⟩:=h.heap _ _ bG
   rw [aG] at an;simp at an;subst an
   split at aA
   ·rename_i a1
    simp at aA;subst aA
    exact ⟨b,off,aJ,ar.cells,by simp;omega⟩
   ·cases aA
  ·rename_i e cG bG
   obtain ⟨bE,k,an,_,ar,_⟩:=h.heap _ _ bG
   rw [aG] at an;simp at an;subst an
   split at aA
   ·rename_i a1
    simp at aA;subst aA
    exact ⟨b,off,aJ,ar.cells,by simp;omega⟩
   ·cases aA
  ·cases aA
 | fl cG =>
  obtain ⟨b,off,aG,aJ⟩:=ao
  simp only [aV] at aA
  split at aA
  ·rename_i a1
   simp at aA;subst aA
   exact ⟨b,off,aG,(aJ.take n).LN h.dY,by simp;omega⟩
  ·cases aA
theorem bW.aL {cs:List AV} {ws:List Value} (h:bW g cs ws):bW g (cs.map AV.aL) ws:=by
 induction ws generalizing cs with
 | nil=>cases h;exact .nil
 | cons w ws ih=>cases h with | cons c cs _ _ R aa=>exact .cons _ _ _ _ R.aL (ih aa)
def p8 (P:Program) (N:Nat) (o:Oper) (d:Nat) (x:aq) (n:Nat) (ag:Bool):Bool:=b2 N o d &&
 (match o.op with | .load t a9=>cA a9 x&&(match P.info? t with | some i=>i.size==n | none=>false) &&
  (match P.underlying t with | some (.struct _) | some (.array _ _)=>ag | some _=>!ag&&n==1 | none=>false) | _=>false)
theorem yj {t:TypeId} {i:TypeInfo} {kv:TypeDesc} {b off:Nat} {ws:List Value} (av:P.info? t=some i) (hu:P.underlying t=some kv) (aN:ws.length=i.size)
  (hw:∀j v,ws[j]?=some v→w.cell? ⟨b,off+j,none⟩=some v) (hY:(∃cu,kv=.struct cu)∨∃n e,kv=.array n e):(Instr.loadAt t (ptrTo b off)).run P w=.ok (.agg ws.toArray) w:=by
 have R:=run_loadCells_list (P:=P) (w:=w) ⟨b,off,none⟩ ws (fun j v ax=>by rw [iX];exact hw j v ax)
 have aa:(isAgg t).run P w=.ok true w:=by
  rcases hY with ⟨cu,rfl⟩ | ⟨n,e,rfl⟩<;>simp [isAgg,run_underlying hu]
 rw [aN] at R
 simp [Instr.loadAt,Instr.sureAddr,ptrTo,loadVar,aa,Go.sizeOf,typeInfo,av,R]
theorem yk {t:TypeId} {kv:TypeDesc} {b off:Nat} {v:Value} (hu:P.underlying t=some kv) (hY:(∀cu,kv≠.struct cu)∧∀n e,kv≠.array n e)
  (hw:w.cell? ⟨b,off,none⟩=some v):(Instr.loadAt t (ptrTo b off)).run P w=.ok v w:=by
 have aa:(isAgg t).run P w=.ok false w:=by
  cases kv<;>first | (simp [isAgg,run_underlying hu];done) | exact absurd rfl (hY.1 _) | exact absurd rfl (hY.2 _ _)
 simp [Instr.loadAt,Instr.sureAddr,ptrTo,loadVar,aa,hw]
theorem Yo {d:Nat} {x:aq} {n:Nat} {ag:Bool} (h:Rel P gl N g s a w) (af:p8 P N o d x n ag=true) (he:au gl s (.ak d x n ag)=some s'):cJ P gl N o g a w s':=by
 simp only [p8,Bool.and_eq_true] at af
 obtain ⟨aw,aD⟩:=af
 split at aD
 ·rename_i t a9 aE
  simp only [Bool.and_eq_true] at aD
  obtain ⟨⟨ai,ea⟩,ab⟩:=aD
  split at ea
  ·rename_i i av
   simp at ea
   simp only [au] at he
   obtain ⟨p,R,he⟩:=bind_some he
   obtain ⟨cs,aa,he⟩:=bind_some he
   obtain ⟨b,off,ax,⟨ws,an,ar,aO,bD⟩,ew⟩:=LO h (mm h ai R) aa
   have Yp:ag=true→((execOp a.eval o).run P w=.ok (.value (.agg ws.toArray)) w):=by
    intro hY
    simp only [execOp,aE,Sem.run_bind,ax]
    split at ab
    ·rename_i cu hu;rw [yj av hu (by omega) bD (.inl ⟨cu,rfl⟩)];rfl
    ·rename_i m e hu;rw [yj av hu (by omega) bD (.inr ⟨m,e,rfl⟩)];rfl
    ·simp [hY] at ab
    ·cases ab
   split at he
   ·rename_i hY
    exact .value h aw he (Yp hY) (.agg _ _ ar.aL aO) (fun _ _ _ h=>by simp at h)
   ·rename_i hY
    split at he
    ·rename_i c
     cases ar with
     | cons _ _ u us hu oW =>
      cases oW
      have g3:=bD 0 u (by simp)
      refine .value h aw he (v:=u) ?_ hu.aL (cc.aL c)
      simp only [execOp,aE,Sem.run_bind,ax]
      split at ab
      ·simp [hY] at ab
      ·simp [hY] at ab
      ·rename_i kv oZ o0 g4
       rw [yk g4 ⟨fun cu e=>oZ cu e,fun n e bH=>o0 n e bH⟩ (by simpa using g3)];rfl
      ·cases ab
    ·cases he
  ·cases ea
 ·cases aD
end
end AM
/-! The simulation of element addresses, fields, strings, slices, literals. -/
namespace AM
open Go
section
variable {P:Program} {gl:aR} {N:Nat} {g:a5} {s s':ae} {a:Act} {w:World} {o:Oper}
theorem vu (cs:List AV):cc (.cU cs):=fun _ _ _ h=>by simp at h
theorem o1 (id off:Nat):cc (.ptr id off):=fun _ _ _ h=>by simp at h
def LP (P:Program) (t f off:Nat):Bool :=
 match P.underlying t with
 | some (.struct cu) =>
  match cu[f]? with
  | some fd=>fd.offset==off&&(match P.info? fd.type with | some i=>i.size != 0 | none=>false)
  | none=>false
 | _=>false
def BT (P:Program) (N:Nat) (o:Oper) (d:Nat) (x:aq) (off:Nat):Bool:=b2 N o d &&
 (match o.op with | .fieldAddr t a9 f=>cA a9 x&&LP P t f off | _=>false)
theorem Yq {t:TypeId} {cu:Array Field} {f:Nat} {fd:Field} {i:TypeInfo} (hu:P.underlying t=some (.struct cu)) (aP:cu[f]?=some fd) (av:P.info? fd.type=some i)
  (a1:i.size≠0) (b off:Nat):(Instr.fieldAt t (ptrTo b off) f).run P w=.ok (ptrTo b (off+fd.offset)) w:=by
 simp only [Instr.fieldAt,Sem.run_bind,run_underlying hu,Result.andThen_ok,aP,Instr.sureAddr,ptrTo,fieldPlace,Go.sizeOf,typeInfo,run_program,av,Sem.run_pure,Sem.run_ite,a1,if_false,iX]
theorem cJ.addr (h:Rel P gl N g s a w) {d u off b:Nat} {cs:List AV} (aw:b2 N o d=true) (cq:c9 s.env d=true) (hu:s.env.get u=some (.b cs)) (ah:a.tmps[u]?=some (ptrTo b 0))
  (aA:(execOp a.eval o).run P w=.ok (.value (ptrTo b off)) w):cJ P gl N o g a w { s with env:=s.env.ins d (.a u off) }:=by
 simp only [b2,Bool.and_eq_true,beq_iff_eq,decide_eq_true_eq] at aw
 refine ⟨_,w,g,.inl aA,dj.refl _ _,?_⟩
 rw [aw.1]
 exact h.XR cq aw.2 hu ah
theorem Yr {d:Nat} {x:aq} {off:Nat} (h:Rel P gl N g s a w) (af:BT P N o d x off=true) (he:au gl s (.aC d x off)=some s'):cJ P gl N o g a w s':=by
 simp only [BT,Bool.and_eq_true] at af
 obtain ⟨aw,aD⟩:=af
 split at aD
 ·rename_i t a9 f aE
  simp only [Bool.and_eq_true] at aD
  obtain ⟨ai,ab⟩:=aD
  unfold LP at ab
  split at ab
  ·rename_i cu hu
   split at ab
   ·rename_i fd j1
    simp only [Bool.and_eq_true,beq_iff_eq] at ab
    obtain ⟨rfl,ab⟩:=ab
    split at ab
    ·rename_i i av
     simp at ab
     have bM:∀b bZ,a.eval a9=ptrTo b bZ→(execOp a.eval o).run P w=.ok (.value (ptrTo b (bZ+fd.offset))) w:=by
      intro b bZ e
      simp only [execOp,aE,Sem.run_bind,e,Yq hu j1 av ab,Result.andThen_ok,Sem.run_pure]
     simp only [au] at he
     split at he
     ·rename_i ht bZ ao
      obtain ⟨b,cs,an,ar,aO,bD⟩:=mm h ai ao
      split at he
      ·rename_i cq
       simp at he;subst he
       exact .addr h aw cq an ar (bM _ _ aO)
      ·cases he
     ·rename_i id bZ ao
      obtain ⟨b,an,ar⟩:=mm h ai ao
      exact .value h aw he (bM _ _ ar) (.ptr _ _ _ an) (o1 _ _)
     ·rename_i cs ao
      obtain ⟨b,bZ,an,ar⟩:=mm h ai ao
      split at he
      ·exact .value h aw he (bM _ _ an) (.pure _ _ (.cU _ _ _ (ar.drop _))) (vu _)
      ·cases he
     ·cases he
    ·cases ab
   ·cases ab
  ·cases ab
 ·cases aD
def o2 (P:Program) (t sz:Nat):Bool :=
 match P.underlying t with
 | some (.slice e)=>(match P.info? e with | some f=>f.size==sz | none=>false)
 | _=>false
def BU (P:Program) (N:Nat) (o:Oper) (d sz:Nat) (x i:aq):Bool:=b2 N o d &&
 (match o.op with | .indexAddr t a9 j2=>cA a9 x&&cA j2 i&&o2 P t sz | _=>false)
theorem LQ {t e:TypeId} {f:TypeInfo} (hu:P.underlying t=some (.slice e)) (av:P.info? e=some f) (b off len cap:Nat) (k:IntKind) {n:Int} (a0:0≤n) (R:n<len) :
  (Instr.indexAt t (.slice (some ⟨b,off,none⟩) len cap) (.int k n)).run P w=.ok (ptrTo b (off+n.toNat*f.size)) w:=by
 simp [Instr.indexAt,asIntOf,run_underlying hu,a0,R,Go.sizeOf,typeInfo,av,iX,ptrTo]
theorem Ys {d sz:Nat} {x i:aq} (h:Rel P gl N g s a w) (af:BU P N o d sz x i=true) (he:au gl s (.bm d sz x i)=some s'):cJ P gl N o g a w s':=by
 simp only [BU,Bool.and_eq_true] at af
 obtain ⟨aw,aD⟩:=af
 split at aD
 ·rename_i t a9 j2 aE
  simp only [Bool.and_eq_true] at aD
  obtain ⟨⟨ai,av⟩,ab⟩:=aD
  unfold o2 at ab
  split at ab
  ·rename_i e hu
   split at ab
   ·rename_i f aP
    simp at ab
    simp only [au] at he
    split at he
    ·rename_i own b8 xs k n R aa
     split at he
     ·rename_i ah
      obtain ⟨rfl,o3,gC⟩:=ah
      obtain ⟨u,an,ar⟩:=bind_some he
      obtain ⟨base,cap,aG,aJ,bo⟩:=(ca h ai R).p7
      have cd:=(ca h av aa).hg
      rcases bo with rfl | ⟨b,off,rfl,dV⟩
      ·simp at an
      ·obtain ⟨bf,bu⟩:=dV.get _ _ an
       refine .value h aw ar (v:=ptrTo b (off+n.toNat*b8)) ?_ (.pure _ _ (.cU _ _ _ bu)) (vu _)
       simp only [execOp,aE,Sem.run_bind,aG,cd,LQ hu aP b off _ cap k o3 gC,Result.andThen_ok,Sem.run_pure,ab]
     ·cases he
    ·rename_i id off m b8 k n R aa
     split at he
     ·rename_i ah
      obtain ⟨rfl,o3,gC⟩:=ah
      obtain ⟨b,kk,cap,aG,_,_,_,bo⟩:=(ca h ai R).oY
      have cd:=(ca h av aa).hg
      refine .value h aw he (v:=ptrTo b (off+n.toNat*b8)) ?_ (.ptr _ _ _ aG) (fun _ _ _ h=>by simp at h)
      simp only [execOp,aE,Sem.run_bind,bo,cd,LQ hu aP b off _ cap k o3 gC,Result.andThen_ok,Sem.run_pure,ab]
     ·cases he
    ·cases he
   ·cases ab
  ·cases ab
 ·cases aD
def BV (P:Program) (N:Nat) (o:Oper) (d:Nat) (x i:aq):Bool:=b2 N o d &&
 (match o.op with | .index t a9 j2=>cA a9 x&&cA j2 i&&(match P.underlying t with | some .string=>true | _=>false) | _=>false)
theorem Yt (l:List UInt8) (n:Nat):(ByteArray.mk l.toArray)[n]?=l[n]?:=by
 by_cases h:n<l.length
 ·have cC:n<(ByteArray.mk l.toArray).size:=by simpa [ByteArray.size] using h
  rw [getElem?_pos _ n cC,List.getElem?_eq_getElem h]
  rfl
 ·have cC:¬n<(ByteArray.mk l.toArray).size:=by simpa [ByteArray.size] using h
  rw [getElem?_neg _ n cC,List.getElem?_eq_none (by omega)]
theorem Yu {d:Nat} {x i:aq} (h:Rel P gl N g s a w) (af:BV P N o d x i=true) (he:au gl s (.idx d x i)=some s'):cJ P gl N o g a w s':=by
 simp only [BV,Bool.and_eq_true] at af
 obtain ⟨aw,aD⟩:=af
 split at aD
 ·rename_i t a9 j2 aE
  simp only [Bool.and_eq_true] at aD
  obtain ⟨⟨ai,av⟩,ab⟩:=aD
  split at ab
  ·rename_i hu
   simp only [au] at he
   split at he
   ·rename_i l k n R aa
    split at he
    ·rename_i o3
     obtain ⟨u,an,ar⟩:=bind_some he
     have aG:=(ca h ai R).jC.1
     have aJ:=(ca h av aa).hg
     refine .value h aw ar (v:=.int .u8 u.toNat) ?_ (.pure _ _ (.int _ _)) (k0 _ _)
     simp only [execOp,aE,Sem.run_bind,aG,aJ,Instr.index,asIntOf,Sem.run_pure,Result.andThen_ok,run_underlying hu,o3,if_true,Yt,an]
    ·cases he
   ·cases he
  ·cases ab
 ·cases aD
def p9:Option Operand→Option aq→Bool
 | none,none=>true
 | some x,some y=>cA x y
 | _,_=>false
theorem yl {x:Value} {k:IntKind} {n:Int} {y:Nat} {code:BoundsCode} (ai:x=.int k n) (a0:0≤n) (R:n≤y):(Instr.sliceBound x y code).run P w=.ok n.toNat w:=by
 subst ai;simp [Instr.sliceBound,asIntOf,a0,R]
theorem BW (h:Rel P gl N g s a w) {x:Option Operand} {y:Option aq} {oQ:Nat} {n:Int} (af:p9 x y=true) (he:hd gl s.env oQ y=some n) :
  (x=none∧n=oQ)∨∃z k,x=some z∧a.eval z=.int k n:=by
 unfold p9 at af
 split at af
 ·simp only [hd] at he;simp at he;exact .inl ⟨rfl,he.symm⟩
 ·rename_i x y
  simp only [hd] at he
  split at he
  ·rename_i k m hm
   simp at he;subst he
   exact .inr ⟨x,k,rfl,(ca h af hm).hg⟩
  ·cases he
 ·cases af
theorem vv (h:Rel P gl N g s a w) {aX av:Option Operand} {qa iE:Option aq} {len cap:Nat} {l r:Int} (Yv:Bool) (k1:p9 aX qa=true) (n1:p9 av iE=true)
  (el:hd gl s.env 0 qa=some l) (Yw:hd gl s.env len iE=some r) (a0:0≤l) (R:l≤r) (aa:r≤len) (o4:len≤cap) :
  (Instr.sliceBounds Yv len cap (aX.map a.eval) (av.map a.eval) none).run P w=.ok (l.toNat,r.toNat,cap) w:=by
 unfold Instr.sliceBounds
 rcases BW h n1 Yw with ⟨rfl,aA⟩ | ⟨z,k,rfl,bx⟩
 ·rcases BW h k1 el with ⟨rfl,lF⟩ | ⟨ym,k',rfl,s4⟩
  ·subst aA lF;simp
  ·subst aA
   simp [yl s4 a0 (show l≤((len:Nat):Int) by omega)]
 ·rcases BW h k1 el with ⟨rfl,lF⟩ | ⟨ym,k',rfl,s4⟩
  ·subst lF
   simp [yl bx (by omega) (show r≤((cap:Nat):Int) by omega)]
  ·simp [yl bx (by omega) (show r≤((cap:Nat):Int) by omega),yl s4 a0 (show l≤((r.toNat:Nat):Int) by omega)]
end
end AM
/-! The simulation of slices, literals, structs, functions, checks for nil, made slices. -/
namespace AM
open Go
section
variable {P:Program} {gl:aR} {N:Nat} {g:a5} {s s':ae} {a:Act} {w:World} {o:Oper}
def yn (P:Program) (t:TypeId):Bool:=match P.underlying t with | some .string=>true | _=>false
theorem LR {t:TypeId} (h:yn P t=true):P.underlying t=some .string:=by unfold yn at h;split at h<;>simp_all
def BX (P:Program) (N:Nat) (o:Oper) (d g2:Nat) (x:aq) (aX av:Option aq):Bool:=b2 N o d &&
 (match o.op with | .slice t a9 qa iE none=>cA a9 x&&p9 qa aX&&p9 iE av&&(if g2=0 then yn P t else o2 P t g2) | _=>false)
theorem Yx (l:List UInt8) (i j:Nat):(ByteArray.mk l.toArray).extract i j=ByteArray.mk ((l.take j).drop i).toArray:=by
 apply ByteArray.ext
 simp only [ByteArray.data_extract]
 apply Array.ext'
 simp [List.drop_take]
theorem Yy {t:TypeId} {l:List UInt8} {aX av:Option Value} {i j:Nat} (hu:P.underlying t=some .string) (ah:(Instr.sliceBounds false l.length l.length aX av none).run P w=.ok (i,j,l.length) w) :
  (Instr.sliceAt t (.string ⟨l.toArray⟩) aX av none).run P w=.ok (.string ⟨((l.take j).drop i).toArray⟩) w:=by
 have e:(ByteArray.mk l.toArray).size=l.length:=by simp [ByteArray.size]
 simp only [Instr.sliceAt,Sem.run_bind,run_underlying hu,Result.andThen_ok,Instr.slice,Option.isSome_none,Bool.false_eq_true,if_false,e,ah,Sem.run_pure,Yx]
theorem BY {t e:TypeId} {f:TypeInfo} {base:Option Addr} {len cap:Nat} {aX av:Option Value} {i j:Nat} (hu:P.underlying t=some (.slice e)) (aP:P.info? e=some f)
  (ah:(Instr.sliceBounds true len cap aX av none).run P w=.ok (i,j,cap) w) :
  (Instr.sliceAt t (.slice base len cap) aX av none).run P w=.ok (.slice (if cap=i then base else base.map (·.add (i*f.size))) (j - i) (cap - i)) w:=by
 simp only [Instr.sliceAt,Sem.run_bind,run_underlying hu,Result.andThen_ok,Instr.slice,ah,Sem.run_pure,Go.sizeOf,typeInfo,run_program,aP]
theorem cp.s5 {γ:dp} {b off cap sz:Nat} {xs:List AV} {n:Nat} (a1:n=xs.length) (R:xs.length≤M) (lE:xs.length≤cap) (aa:dd γ b off sz xs):cp γ (.list none sz xs) (.slice (some ⟨b,off,none⟩) n cap):=by
 subst a1;exact .list _ _ _ _ _ R lE aa
theorem cp.BZ {γ:dp} {sz n cap:Nat} {base:Option Addr} {xs:List AV} (ai:xs=[]) (a1:n=0) (ah:base=none→cap=0):cp γ (.list none sz xs) (.slice base n cap):=by
 subst ai;subst a1;exact .fP _ _ _ ah
theorem Yz {d g2:Nat} {x:aq} {aX av:Option aq} (h:Rel P gl N g s a w) (af:BX P N o d g2 x aX av=true) (he:au gl s (.hU d g2 x aX av)=some s'):cJ P gl N o g a w s':=by
 simp only [BX,Bool.and_eq_true] at af
 obtain ⟨aw,aD⟩:=af
 split at aD
 ·rename_i t a9 qa iE aE
  simp only [Bool.and_eq_true] at aD
  obtain ⟨⟨⟨ai,k1⟩,n1⟩,ab⟩:=aD
  simp only [au] at he
  split at he
  ·rename_i l aN
   split at he
   ·rename_i i j fH lG
    split at he
    ·rename_i ah
     obtain ⟨a0,R,aa,al⟩:=ah
     simp only [a0,if_true] at ab
     have hu:=LR ab
     have ax:=(ca h ai aN).jC
     have lH:=vv (P:=P) (w:=w) h false k1 n1 fH lG R aa al (Nat.le_refl _)
     refine .value h aw he ?_ (.pure _ _ (.str ((l.take j.toNat).drop i.toNat) ?_)) (vn _)
     ·simp only [execOp,aE,Option.map_none,Sem.run_bind,ax.1,Yy hu lH,Result.andThen_ok,Sem.run_pure]
     ·have:=ax.2;simp;omega
    ·cases he
   ·cases he
  ·rename_i own sz xs aN
   split at he
   ·rename_i i j fH lG
    split at he
    ·rename_i ah
     obtain ⟨a0,rm,R,aa,al⟩:=ah
     subst a0
     simp only [rm,if_false] at ab
     unfold o2 at ab
     split at ab
     ·rename_i e hu
      split at ab
      ·rename_i f aP
       simp at ab
       obtain ⟨base,cap,aG,aJ,bo⟩:=(ca h ai aN).p7
       have o4:xs.length≤cap:=aJ.2
       have lH:=vv (P:=P) (w:=w) h true k1 n1 fH lG R aa al o4
       refine .value h aw he (v:=.slice (if cap=i.toNat then base else base.map (·.add (i.toNat*f.size))) (j.toNat - i.toNat) (cap - i.toNat)) ?_ ?_ (cc.none _ _)
       ·simp only [execOp,aE,Option.map_none,Sem.run_bind,aG,BY hu aP lH,Result.andThen_ok,Sem.run_pure]
       ·have hlen:((xs.take j.toNat).drop i.toNat).length=j.toNat - i.toNat:=by simp;omega
        by_cases gn:j.toNat=i.toNat
        ·have yp:=aU.Yj (aG▸ca h ai aN)
         exact .pure _ _ (.BZ (by apply List.eq_nil_of_length_eq_zero;omega) (by omega) (by
          intro ah
          split at ah
          ·omega
          ·rw [yp (by simpa using ah)];omega))
        ·rcases bo with rfl | ⟨b,off,rfl,dV⟩
         ·simp at al;omega
         ·have ck:¬cap=i.toNat:=by omega
          simp only [ck,if_false,Option.map_some,iX,ab]
          exact .pure _ _ (.s5 hlen.symm (by simp;omega) (by omega) ((dV.take _).drop _))
      ·cases ab
     ·cases ab
    ·cases he
   ·cases he
  ·rename_i sz aN
   split at he
   ·rename_i i j fH lG
    split at he
    ·rename_i ah
     obtain ⟨a0,rm,R,aa⟩:=ah
     subst a0 R aa
     simp only [rm,if_false] at ab
     unfold o2 at ab
     split at ab
     ·rename_i e hu
      split at ab
      ·rename_i f aP
       have aG:=(ca h ai aN).m5
       have lH:=vv (P:=P) (w:=w) (len:=0) (cap:=0) h true k1 n1 fH lG (by omega) (by omega) (by omega) (by omega)
       refine .value h aw he (v:=.slice none 0 0) ?_ (.pure _ _ (.aH _)) (fun _ _ _ h=>by simp at h)
       simp only [execOp,aE,Option.map_none,Sem.run_bind,aG,BY hu aP lH,Result.andThen_ok,Sem.run_pure]
       simp
      ·cases ab
     ·cases ab
    ·cases he
   ·cases he
  ·rename_i id off n sz aN
   split at he
   ·rename_i i j fH lG
    split at he
    ·rename_i ah
     obtain ⟨a0,rm,R,aa,al⟩:=ah
     subst a0
     simp only [rm,if_false] at ab
     unfold o2 at ab
     split at ab
     ·rename_i e hu
      split at ab
      ·rename_i f aP
       simp at ab
       obtain ⟨b,kk,cap,an,ar,aO,bD,ew⟩:=(ca h ai aN).oY
       have lH:=vv (P:=P) (w:=w) h true k1 n1 fH lG R aa al bD
       have bM:(execOp a.eval o).run P w=.ok (.value (.slice (if cap=i.toNat then some ⟨b,off,none⟩ else (some (⟨b,off,none⟩:Addr)).map (·.add (i.toNat*f.size))) (j.toNat - i.toNat) (cap - i.toNat))) w:=by
        simp only [execOp,aE,Option.map_none,Sem.run_bind,ew,BY hu aP lH,Result.andThen_ok,Sem.run_pure]
       split at he
       ·rename_i gn
        exact .value h aw he bM (.pure _ _ (.BZ rfl (by omega) (by intro ah;split at ah<;>simp at ah))) (cc.none _ _)
       ·rename_i gn
        refine .value h aw he bM ?_ (fun _ _ _ h=>by simp at h)
        by_cases B0:cap=i.toNat
        ·have YA:i=0:=by omega
         subst YA
         simp only [Int.toNat_zero] at B0
         subst B0
         simpa using aU.bI id off (j.toNat) g2 b kk 0 an ar aO (by omega)
        ·simp only [B0,if_false,Option.map_some,iX,ab]
         refine aU.bI id _ _ g2 b kk (cap - i.toNat) an ar ?_ (by omega)
         rw [←aO,Nat.add_assoc,←Nat.add_mul];congr 2;omega
      ·cases ab
     ·cases ab
    ·cases he
   ·cases he
  ·cases he
 ·cases aD
theorem bW.YB {cs:List AV} {ws:List Value} (h:bW g cs ws) (R:cs.all AV.one=true):∀v∈ws,v.oneCell'=true:=by
 induction ws generalizing cs with
 | nil=>simp
 | cons v ws ih=>cases h with
  | cons c cs _ _ ax fQ =>
   simp only [List.all_cons,Bool.and_eq_true] at R
   intro u hu
   rcases List.mem_cons.1 hu with rfl | hu
   ·cases ax with
    | pure _ _ ao=>cases ao<;>first | rfl | simp [AV.one] at R
    | own _ _ _ _ ao=>cases ao<;>rfl
    | ptr=>rfl
    | map=>rfl
    | bI=>rfl
    | fb=>rfl
    | fn=>rfl
    | agg=>simp [AV.one] at R
    | bw=>simp [AV.one] at R
   ·exact ih fQ R.2 u hu
theorem aU.cells {x:AV} {v:Value} (h:aU g x v) (ai:x.cells.all AV.one=true):bW g x.cells v.cells.toList∧(∀u∈v.cells.toList,u.oneCell'=true):=by
 by_cases hY:∃cs,x=.agg cs
 ·obtain ⟨cs,rfl⟩:=hY
  obtain ⟨ws,rfl,aG,aJ⟩:=h.jD
  exact ⟨by simpa [AV.cells,Value.cells] using aG,by simpa [Value.cells] using aJ⟩
 ·have e:x.cells=[x]:=by cases x<;>first | rfl | exact absurd ⟨_,rfl⟩ hY
  rw [e] at ai ⊢
  have ax:v.cells=#[v]:=by
   cases h with
   | pure _ _ ao=>cases ao<;>first | rfl | exact absurd ⟨_,rfl⟩ hY
   | own _ _ _ _ ao=>cases ao<;>rfl
   | ptr=>rfl
   | map=>rfl
   | bI=>rfl
   | fb=>rfl
   | fn=>rfl
   | agg=>exact absurd ⟨_,rfl⟩ hY
   | bw=>rfl
  rw [ax]
  have R:bW g [x] [v]:=.cons _ _ _ _ h .nil
  exact ⟨R,R.YB ai⟩
def B1 (N:Nat) (o:Oper) (d:Nat) (fz:Bool) (x y:aq):Bool:=b2 N o d &&
 (match m3 o.op with | some (b,[a9,fc],_)=>cA a9 x&&cA fc y&&(match b with | .max=>fz | .min=>!fz | _=>false) | _=>false)
theorem YC {d:Nat} {fz:Bool} {x y:aq} (h:Rel P gl N g s a w) (af:B1 N o d fz x y=true) (he:au gl s (.jS d fz x y)=some s'):cJ P gl N o g a w s':=by
 simp only [B1,Bool.and_eq_true] at af
 obtain ⟨aw,aD⟩:=af
 split at aD
 ·rename_i b a9 fc bk aE
  obtain ⟨nZ,bM⟩:=m4 (o:=o) aE rfl a.eval
  simp only [Bool.and_eq_true] at aD
  obtain ⟨⟨ai,aT⟩,ab⟩:=aD
  simp only [au] at he
  split at he
  ·rename_i k m k' n R aa
   have aG:=(ca h ai R).hg
   have aJ:=(ca h aT aa).hg
   refine .value h aw he (v:=.int k (if fz=true then (if n>m then n else m) else (if n<m then n else m))) ?_ (.pure _ _ (.int _ _)) (k0 _ _)
   rw [bM]
   split at ab
   ·subst ab;simp [builtin,aG,aJ,Builtin.max_,Builtin.max2]
   ·simp at ab;subst ab;simp [builtin,aG,aJ,Builtin.min_,Builtin.min2]
   ·cases ab
  ·cases he
 ·cases aD
def B2 (N:Nat) (o:Oper) (d:Nat) (x:aq):Bool:=b2 N o d&&(match o.op with | .nilCheck a9=>cA a9 x | _=>false)
theorem YD {d:Nat} {x:aq} (h:Rel P gl N g s a w) (af:B2 N o d x=true) (he:au gl s (.bV d x)=some s'):cJ P gl N o g a w s':=by
 simp only [B2,Bool.and_eq_true] at af
 obtain ⟨aw,aD⟩:=af
 split at aD
 ·rename_i a9 aE
  have bM:∀b bZ,a.eval a9=ptrTo b bZ→(execOp a.eval o).run P w=.ok (.value (ptrTo b bZ)) w:=by
   intro b bZ e;simp [execOp,aE,e,ptrTo]
  simp only [au] at he
  split at he
  ·rename_i n
   have aT:a9=.tmp n:=by unfold cA at aD;split at aD<;>simp_all
   subst aT
   split at he
   ·rename_i cs a1
    obtain ⟨b,aG,aJ⟩:=h.env _ _ a1
    split at he
    ·rename_i cq
     simp at he;subst he
     exact .addr h aw cq a1 aG (bM _ _ (by simp [Act.eval,aG]))
    ·cases he
   ·rename_i t off a1
    obtain ⟨⟨cs,hu⟩,b,aG,aJ⟩:=h.env _ _ a1
    split at he
    ·rename_i cq
     simp at he;subst he
     exact .addr h aw cq hu aJ (bM _ _ (by simp [Act.eval,aG]))
    ·cases he
   ·rename_i id off a1
    obtain ⟨v,aG,aJ,_⟩:=h.env _ _ a1
    obtain ⟨b,an,ar⟩:=aJ.m2
    exact .value h aw he (bM _ _ (by simp [Act.eval,aG,ar])) (ar▸aJ) (o1 _ _)
   ·rename_i cs a1
    obtain ⟨v,aG,aJ,_⟩:=h.env _ _ a1
    obtain ⟨b,off,an,ar⟩:=aJ.LL
    exact .value h aw he (bM _ _ (by simp [Act.eval,aG,an])) (an▸aJ) (vu _)
   ·cases he
  ·cases he
 ·cases aD
theorem YE (f:Nat) (cs:List AV):cc (.fn f cs):=fun _ _ _ h=>by simp at h
def B3 (N:Nat) (o:Oper) (d f:Nat) (eu:List aq):Bool:=b2 N o d &&
 (match o.op with | .makeFunc (.func eR) first vw=>eR==f&&first.size==0&&gQ vw.toList eu | _=>false)
theorem YF {d f:Nat} {eu:List aq} (h:Rel P gl N g s a w) (af:B3 N o d f eu=true) (he:au gl s (.iS d f eu)=some s'):cJ P gl N o g a w s':=by
 simp only [B3,Bool.and_eq_true] at af
 obtain ⟨aw,aD⟩:=af
 split at aD
 ·rename_i eR first vw aE
  simp only [Bool.and_eq_true,beq_iff_eq] at aD
  obtain ⟨⟨rfl,a0⟩,gD⟩:=aD
  have YG:first=#[]:=Array.eq_empty_of_size_eq_zero a0
  subst YG
  obtain ⟨vs,aG,aJ⟩:=bind_some he
  split at aJ
  ·have q:=(oV h gD aG).aL
   refine .value h aw aJ (v:=.func (.func eR) #[] (vw.toList.map a.eval).toArray) ?_ (.fn _ _ _ q) (YE _ _)
   have e:(List.map a.eval vw.toList).toArray=vw.map a.eval:=by apply Array.ext';simp
   simp only [execOp,aE,Sem.run_bind,Instr.makeFunc,Sem.run_pure,Result.andThen_ok,e]
   simp
  ·cases aJ
 ·cases aD
end
end AM
