/- An abstract machine, and what of the given program it does, part 5. Conditions: none. -/
import Derived.Test.YtmmplkgkkkjojaaGreatDoorAm3
import Derived.RangeFuncFrom
import Derived.TacticsIn
import Derived.RangeFuncNested
import Derived.RangeFuncLeaves
import Derived.ChangeArms
set_option linter.unusedSimpArgs false
set_option linter.unusedVariables false
namespace AM
open Bool renaming and_eq_true -> aKB,false_eq_true -> aKJ
open Array renaming getElem?_eq_some_iff -> aKC,getD_eq_getD_getElem? -> aKD,replicate -> aKF,getElem?_append -> aKG
open Nat renaming reduceEqDiff -> aKE
open List renaming all_eq_true -> aKH,mem_map -> aKI,mem_of_getElem? -> aKK
open Go
def Cc(P:Program):ResultVar->bo->Bool
 |.tmp t,.t jY=>t==jY|.cell x t,.b bK sz=>x==bK&&(match P.info? t with|some i=>i.size==sz|none=>false)&&(match P.underlying t with|some (.struct _)=>true|_=>false)|_,_=>false
def uO(P:Program):List ResultVar->List bo->Bool
 |[],[]=>true|r::rs,v::vs=>Cc P r v&&uO P rs vs|_,_=>false
def bs(P:Program)(f k:Nat)(hh:az)(iw:List bo):Bool :=
 kR P f&&match P.funcs[f]? with
 |some fn=>(match fn.body with|some c=>ic P fn.ntmps c hh&&uO P fn.results.toList iw&&decide (k<=fn.ntmps)|none=>false)|none=>false
def mR:Nat->List AV->Env
 |_,[]=>[]|i,x::xs=>(i,.v x)::mR (i+1) xs
def AV.res:AV->Bool
 |.list _ _ _=>true|.bg vs=>vs.all AV.arg|x=>x.arg
def yg(K:au->Prop):k7->au->Prop
 |.exit _,_=>False|_,s=>K s
def EX(tmps:Array Value):ResultVar->Sem Value
 |.tmp t=>pure (tmps.getD t undef)|.cell x t=>do loadVar t (<-asAddr (tmps.getD x undef))
theorem aq6(fn:Func)(tmps:Array Value):results fn tmps=(fn.results.mapM (EX tmps)) >>= λvs=>pure (if h:vs.size=1 then vs[0]else .tuple vs):=by
 unfold results;refine congrArg (λx:Sem (Array Value)=>x >>= _) (congrArg (λF=>Array.mapM F fn.results) (funext λr=>?_));cases r<;>rfl
section
variable {P:Program}{gl:cQ}{D:bj}{N:Nat}{g g':bD}{s s':au}{a:Act}{w w':World}{o:Oper}
variable {x:AV}
theorem WJ(h:Rel P gl N g s a w){r:ResultVar}{f:bo}(d:Cc P r f=true)(ah:BW s.env f=some x) :
  ∃v,(EX a.tmps r).run P w=.ok v w/\bn g x v/\(cY x\/∃t,f=.t t/\fC P g w (.var t) x v):=by
 cases r with
 |tmp t =>
  cases f with
  |b=>simp[Cc]at d|t H =>
   simp[Cc]at d;subst d;simp only[BW]at ah;split at ah
   ·rename_i y q;simp at ah;subst ah;obtain⟨v,j,k,u⟩:=h.env _ _ q;have:a.tmps.getD t undef=v:=by simp[aKD,j]
    exact⟨v,by simp[EX,this],k,.inr ⟨t,rfl,u⟩⟩
   ·cases ah
 |cell c t =>
  cases f with
  |t=>simp[Cc]at d|b J sz =>
   simp only[Cc,aKB,beq_iff_eq]at d;obtain⟨⟨rfl,l⟩,hk⟩:=d;simp only[BW]at ah;split at ah
   ·rename_i cs z;split at ah
    ·rename_i m;simp at ah;subst ah;obtain⟨b,j,k⟩:=h.env _ _ z;obtain⟨ws,A,p,B,C⟩:=k.cells (off:=0) (n:=cs.length);simp only[List.drop_zero,List.take_length]at A p;split at l
     ·rename_i i al;simp at l;split at hk
      ·rename_i E F;have ar:a.tmps.getD c undef=ptrTo b 0:=by simp[aKD,j]
       have G:=HJ (P:=P) (w:=w) (b:=b) (off:=0) al F am C (.inl ⟨E,rfl⟩);refine⟨.agg ws.toArray,?_,.agg _ _ p.a1 B,.inl λe sz xs h=>f9⟩;simp only[EX,ar];simpa[Instr.loadAt,Instr.sureAddr,ptrTo,asAddr]using G
      ·cases hk
     ·cases l
    ·cases ah
   ·cases ah
theorem WK(h:Rel P gl N g s a w):∀{rs:List ResultVar}{iw:List bo}{xs:List AV},uO P rs iw=true->BX s.env iw=some xs ->
  xs.length=iw.length/\∃vs,(rs.mapM (EX a.tmps)).run P w=.ok vs w/\cS g xs vs
 |[],[],xs,_,ah=>by simp[BX]at ah;subst ah;exact⟨rfl,[],be,.nil⟩|[],_::_,_,b,_=>by simp[uO]at b|_::_,[],_,b,_=>by simp[uO]at b|r::rs,l::iw,xs,b,ah=>by
  simp only[uO,aKB]at b;simp only[BX]at ah;split at ah
  ·rename_i y m c d;simp at ah;subst ah;obtain⟨v,e,f,_⟩:=WJ h b.1 c;obtain⟨i,vs,j,k⟩:=WK h b.2 d;refine⟨by simp[i],v::vs,?_,.cons _ _ _ _ f.a1 k⟩;rw[List.mapM_cons,Sem.run_bind,e];simp only[Result.andThen_ok,Sem.run_bind];rw[j];simp
  ·cases ah
variable {iw:List bo}
theorem aq7(h:Rel P gl N g s a w){fn:Func}(b:uO P fn.results.toList iw=true)(ah:tv s.env iw=some x) :
  ∃v,(results fn a.tmps).run P w=.ok v w/\bn g x v/\(cY x\/∃t,iw=[.t t]/\fC P g w (.var t) x v):=by
 rw[aq6,Array.mapM_eq_mapM_toList];unfold tv at ah;split at ah
 ·rename_i j;generalize fn.results.toList=rs at b
  match rs,b with
  |[r],b =>
   simp only[uO,Bool.and_true]at b;obtain⟨v,i,d,k⟩:=WJ h b ah;refine⟨v,?_,d,k.imp id λ⟨t,l,m⟩=>⟨t,by rw[l],m⟩⟩;simp[i]
  |_::_::_,b=>simp[uO]at b
 ·rename_i cG;rw[Option.map_eq_some_iff]at ah;obtain⟨xs,n,rfl⟩:=ah;obtain⟨c,vs,i,d⟩:=WK h b n;refine⟨.tuple vs.toArray,?_,.bg _ _ d,.inl λe sz xs h=>f9⟩;have f:vs.length≠1:=by
   intro f;rw[d.get.1,c]at f
   match iw,f with
   |[j],_=>exact cG j rfl
  simp[i,f]
theorem WL:∀(xs:List AV)(i t:Nat),Env.get (mR i xs) t=if i<=t then(xs[t-i]?).map .v else none
 |[],i,t=>by simp[mR,Env.get]|x::xs,i,t=>by
  simp only[mR,Env.get,WL xs (i+1) t];by_cases b:t=i
  ·subst b;simp
  ·grind
theorem WM:∀(xs:List AV)(i:Nat),∀p∈mR i xs,i<=p.1
 |[],_,p,h=>by simp[mR]at h|x::xs,i,p,h=>by
  simp only[mR,List.mem_cons]at h;rcases h with rfl|h
  ·simp
  ·have:=WM xs (i+1) p h;omega
theorem N9:∀(xs:List AV)(i:Nat),(mR i xs).Pairwise λp q=>p.1<q.1
 |[],_=>.nil|x::xs,i=>by
  simp only[mR,List.pairwise_cons];exact⟨λp ar=>by have:=WM xs (i+1) p ar;simp;omega,N9 xs (i+1)⟩
variable {f:Nat}{hh:az}
theorem yh{k:Nat}(h:bs P f k hh iw=true):kR P f=true/\∃fn c,P.funcs[f]?=some fn/\fn.body=some c /\
  ic P fn.ntmps c hh=true/\uO P fn.results.toList iw=true/\k<=fn.ntmps:=by
 simp only[bs,aKB]at h;obtain⟨b,h⟩:=h;split at h
 ·grind
 ·cases h
theorem WN{xs:List AV}{vs:List Value}{H:List ay}{Q:au->Prop}(A:bs P f xs.length hh iw=true)
  (h:Rel P gl 0 g (l9 H) tu w)(u:cS g xs vs)(aE:∀(i:Nat)x v,xs[i]?=some x->vs[i]?=some v->fC P g w (.var i) x v)
  (he:exec P gl D hh ⟨mR 0 xs,H⟩ (yg Q))(B:∀s,Q s->(tv s.env iw).isSome=true) :
  Calls P f vs.toArray w λe w'=>∃v r s' g' j N',e=.returned v/\Q s'/\tv s'.env iw=some r/\eL g w g' w'/\Rel P gl N' g' s' j w'/\bn g' r v /\
   (cY r\/∃t,iw=[.t t]/\fC P g' w' (.var t) r v):=by
 obtain⟨_,fn,c,C,E,F,G,O⟩:=yh A;have y:vs.length=xs.length:=u.get.1;have de:Rel P gl fn.ntmps g ⟨mR 0 xs,H⟩ { tmps:=vs.toArray++aKF (fn.ntmps-vs.toArray.size) undef,defers:=[] } w:=by
  refine⟨N9 xs 0,d9,rfl,λt e he=>?_,h.heap,h.fI,h.own,h.hf,h.ga⟩;rw[WL]at he;simp only[Nat.zero_le,if_true,Nat.sub_zero,Option.map_eq_some_iff]at he;obtain⟨x,ah,rfl⟩:=he;obtain⟨v,d,k⟩:=u.get.2 t x ah;have J:t<vs.length:=by grind
  exact⟨v,by simp[aKG,J,<-d],k,aE t x v ah d⟩
 refine calls_of_wp C E (wp_mono (aq0 hh c F _ _ g _ w de he) ?_);rintro e l ba ⟨ex,m,K,rfl,b,n,p⟩;have key:Q m->l.defers=[]/\∃v,(results fn l.tmps).run P ba=.ok v ba/\∃q r s' g' j N',Ending.returned v=.returned q/\Q s'/\tv s'.env iw=some r/\eL g w g' ba/\Rel P gl N' g' s' j ba/\bn g' r q /\
   (cY r\/∃t,iw=[.t t]/\fC P g' ba (.var t) r q):=λb=>by
  obtain⟨r,z⟩:=Option.isSome_iff_exists.1 (B m b);obtain⟨v,d,k,L⟩:=aq7 p G z;exact⟨p.defers,v,d,v,r,m,K,l,_,rfl,b,z,n,p,k,L⟩
 cases ex with
 |normal=>exact key b|exit i=>exact b.elim|ret=>exact key b
end
section
variable {P:Program}{gl:cQ}{D:bj}{N:Nat}{g g':bD}{s s':au}{a:Act}{w w':World}{o:Oper}
variable {f:Nat}{hh:az}{iw:List bo}{xs:List AV}
theorem bB.intro{H:List ay}{K:AV->List ay->Prop}(l:bs P f xs.length hh iw=true)
  (he:exec P gl D hh ⟨mR 0 xs,H⟩ (yg λs=>∃r,tv s.env iw=some r/\K r s.heap)):bB P gl f xs H K:=by
 refine⟨(yh l).1,λg w vs h n aE=>(WN l h n aE he λs ⟨r,c,_⟩=>by simp[c]).mono ?_⟩;rintro e w' ⟨v,r,s',g',S,T,rfl,⟨V,d,p⟩,c,hle,hrel,q,k⟩;rw[c]at d;simp at d;subst d;let bO:Nat->eW:=λb=>match g'.bO b with
  |.outer=>.outer|.bM id=>.bM id|.oc id i=>.oc id i|.var _=>.var 0|_=>.none
 have u:∀b,bO b≠.none->b<w'.heap.size:=λb ae=>hrel.own b λe=>ae (by simp[bO,e]);refine⟨v,r,s'.heap,⟨g'.γ,bO,g'.cg⟩,rfl,p,⟨⟨hle.γ,hle.cg⟩,λb ae=>?_,hle.size,hle.os,hle.out⟩,hrel.VM bO ?_ u,q.mono (⟨λ_ _ _ h=>h,λ_ _ h=>h⟩:GhLe g' ⟨g'.γ,bO,g'.cg⟩),?_⟩
 ·obtain⟨x,y,A⟩:=hle.outer b ae;exact⟨by simp[bO,x],y,A⟩
 ·grind
 ·rcases k with B|⟨t,_,k⟩
  ·exact B.gG
  ·intro e sz C ah;obtain⟨j,z,E,m1,F,G,J,L,O,Q,R,m⟩:=k e sz C ah;exact⟨j,z,E,m1,F,G,J,L,O,Q,R,λb ae=>⟨by simp[bO,(m b ae).1],(m b ae).2⟩⟩
variable {x:AV}{v:Value}
theorem bn.zX(h:bn g x v)(ah:x.arg=true)(g':bD)(b:g'.γ=g.γ):bn g' x v :=
 (VK h ah).mono ⟨by rw[b];exact λ_ _ _ h=>h,λ_ _ h=>d6⟩
theorem cS.zX{vs:List Value}(h:cS g xs vs)(ah:xs.all AV.arg=true)(g':bD)(b:g'.γ=g.γ):cS g' xs vs :=
 (NF h ah).mono ⟨by rw[b];exact λ_ _ _ h=>h,λ_ _ h=>d6⟩
theorem bn.EZ(h:bn g x v)(ah:x.res=true)(g':bD)(b:g'.γ=g.γ):bn g' x v:=by
 cases x with
 |list own sz xs =>
  cases h with
  |pure _ _ h=>exact .pure _ _ (by rw[b];exact h)|own e _ _ _ h=>exact .own _ _ _ _ (by rw[b];exact h)
 |bg vs =>
  cases h with
  |pure _ _ h=>cases h|bg _ ws h=>exact .bg _ _ (h.zX ah g' b)
 |_=>exact h.zX ah g' b
theorem E0(h:x.arg=true):cY x:=by
 intro e sz xs ah;simp_all[AV.arg,AV.pure,AV.eH]
theorem aA.intro{r:AV}(p:bs P f xs.length hh iw=true)(ah:xs.all AV.arg=true)(u:r.res=true)
  (he:exec P gl D hh ⟨mR 0 xs,[]⟩ (yg λs=>tv s.env iw=some r)):aA P gl f xs r:=by
 intro γ w vs y A B;let g:bD:=⟨γ,λb=>if b<w.heap.size then .outer else .none,λ_=>none⟩
 have d:Rel P gl 0 g (l9 []) tu w :=
  ⟨.nil,rfl,rfl,λt e he=>kE,λid bM C=>by simp[l9]at C,y,λb ae=>by
   by_cases h:b<w.heap.size
   ·exact h
   ·simp[g,h]at ae,A,λid b h=>d6⟩
 have E:∀x∈xs,cY x:=λx F=>E0 (aKH.1 ah x F);refine(WN p d (B.zX ah g rfl) (λi x v h _=>(E x (aKK h)).gG) he λs h=>by simp[h]).mono ?_;rintro e w' ⟨v,Y,s',g',Z,N',rfl,G,k,c,H,J,l⟩;rw[G]at k;simp at k;subst k;have m:∀b,b<w.heap.size->g'.bO b=.outer/\w'.heap[b]?=w.heap[b]?/\∀o,g'.γ b o=γ b o:=λb ae=>c.outer b (by simp[g,ae]);refine⟨v,g'.γ,rfl,c.γ,c.size,λb ae=>(m b ae).2,⟨c.os,c.out⟩,H.fI,J.EZ u _ rfl,?_⟩;rcases l with K|⟨t,_,l⟩
 ·exact K.gG
 ·intro e sz L ah;obtain⟨j,z,O,m1,Q,R,S,T,V,W,X,n⟩:=l e sz L ah;refine⟨j,z,O,m1,Q,R,S,T,V,W,X,λb ae=>⟨?_,(n b ae).2⟩⟩;have q:=(n b ae).1;have:¬b<w.heap.size:=λh=>by rw[(m b h).1]at q;cases q
  simp[we,this]
theorem pL:∀(hh:az){s:au}{Q k:k7->au->Prop},exec P gl D hh s Q->(∀e s,Q e s->k e s)->exec P gl D hh s k
 |.skip,_,_,_,h,b=>b _ _ h|.aa _ _,_,_,_,h,b=>Ip (λ_ h=>b _ _ h) h|.seq x y,_,_,_,h,b=>pL x h λe s h=>by
  cases e with
  |normal=>exact pL y h b|exit i=>exact b _ _ h|ret=>exact b _ _ h
 |.cond c x y,s,_,_,h,b=>by
  simp only[exec]at h ⊢;split at h
  ·split at h
   ·rw[if_pos mu];exact pL x h b
   ·rw[if_neg mu];exact pL y h b
  ·exact h.elim
 |.block i c,_,_,_,h,b=>pL c h λe s h=>by
  cases e with
  |normal=>exact b _ _ h|exit j=>grind|ret=>exact b _ _ h
 |.loop c,_,_,_,h,b=>λX bA=>h X λs ax=>bA s (pL c ax λe s h=>by
  cases e with
  |normal=>exact h|exit i=>exact b _ _ h|ret=>exact b _ _ h)
 |.exit _,_,_,_,h,b=>b _ _ h|.ret,_,_,_,h,b=>b _ _ h|.Ht t c,s,_,_,h,b=>by
  simp only[exec]at h ⊢;split at h
  ·exact λd=>pL c (h d) b
  ·exact λd=>pL c (h d) b
  ·exact h.elim
 |.drop _ c,_,_,_,h,b=>pL c h b|.kill _ c,_,_,_,h,b=>pL c h b|.q6 t e sz c,s,_,_,h,b=>by
  simp only[exec]at h ⊢;split at h
  ·exact pL c h b
  ·exact h.elim
 |.ta t off e sz c,s,_,_,h,b=>by
  simp only[exec]at h ⊢;split at h
  ·exact pL c h b
  ·exact h.elim
 |.bad,_,_,_,h,_=>h.elim
theorem aq8{c:az}{s:au}{Q:k7->au->Prop}(h:exec P gl D c s λe s'=>match e with|.normal=>exec P gl D (.loop c) s' Q|e=>Q e s'):exec P gl D (.loop c) s Q:=by
 intro X bA;refine bA s (pL c h λe s' h=>?_);cases e with
 |normal=>exact h X bA|exit i=>exact h|ret=>exact h
end
abbrev Ob:=AV×List ay
abbrev Oc:=Nat->List AV->List ay->Option (List Ob)
section
variable (gl:cQ)(call:Oc)
def fin(s:au)(d:Option Nat)(p:Ob):Option (List au):=(({ s with heap:=p.2 }:au).fO d p.1).map λs=>[s]
end
section
variable {P:Program}{gl:cQ}{N:Nat}{g g':bD}{s s':au}{a:Act}{w w':World}{F:Fence}{n:Nat}{Q:Exit->Act->World->Prop}{ops:Array Oper}{rest:List Oper}{o:Oper}
def Ce(gl:cQ):List cW->au->Option au
 |[],s=>some s|o::r,s=>(aJ gl s o).bind (Ce gl r)
def iW(o:Oper):Bool:=o.guard.isNone&&(match o.op with|.defer _=>false|_=>true)
def tA(P:Program)(N:Nat):List Oper->List cW->Bool
 |[],[]=>true|o::os,ma::Cf=>iW o&&kS P N o ma&&tA P N os Cf|_,_=>false
def aq9(os:List Oper)(a cN:Act):Prop:=∀t,(∀o∈os,o.dst≠some t)->cN.tmps[t]?=a.tmps[t]?
theorem wq{ys:Nat->Option Bool}(h:iW o=true):Region.wanted o ys=true:=by
 simp only[iW,aKB,Option.isNone_iff_eq_none]at h;simp[Region.wanted,h.1]
theorem wu(h:iW o=true):∀c,o.op≠.defer c:=by
 intro c b;simp_all[iW]
theorem ss(v:Value)(t:Nat)(h:o.dst≠some t):(a.put o.dst v).tmps[t]?=a.tmps[t]?:=by
 cases aE:o.dst with
 |none=>rfl|some d =>
  simp only[Act.put];rw[Array.getElem?_setIfInBounds_ne (λe=>h (by rw[aE,e]))]
theorem Cg(e:∀f,F.fn f)(ar:iW o=true)(h:eu P gl N o g a w s')
  (K:∀v w' g',eL g w g' w'->Rel P gl N g' s' (a.put o.dst v) w'->wpListIn F n P ops Q rest (a.put o.dst v) w'):wpListIn F n P ops Q (o::rest) a w:=by
 obtain⟨v,w',g',b,c,d⟩:=h;unfold wpListIn;rw[if_pos (wq ar)];refine⟨λf _=>e f,?_⟩;rw[Oper.semAt_eq _ _ _ (wu ar)];rcases b with b|⟨b,rfl⟩
 ·rw[b];exact K v w' g' c d
 ·rw[b];exact K _ w' g' c d
theorem WO(e:∀f,F.fn f):∀(os:List Oper)(c:List cW){g:bD}{s:au}{a:Act}{w:World},tA P N os c=true->Rel P gl N g s a w->Ce gl c s=some s' ->
  (∀g' d w',eL g w g' w'->Rel P gl N g' s' d w'->aq9 os a d->wpListIn F n P ops Q rest d w')->wpListIn F n P ops Q (os++rest) a w
 |[],[],g,s,a,w,_,h,he,K=>by
  simp only[Ce,Option.some.injEq]at he;subst he;exact K g a w (eL.refl _ _) h (λ_ _=>rfl)
 |[],_::_,_,_,_,_,b,_,_,_=>by simp[tA]at b|_::_,[],_,_,_,_,b,_,_,_=>by simp[tA]at b|o::os,C::c,g,s,a,w,b,h,he,K=>by
  simp only[tA,aKB]at b;obtain⟨⟨ar,aE⟩,j⟩:=b;simp only[Ce]at he;obtain⟨D,k,l⟩:=bind_some he;refine Cg e ar (wg h aE k) λv w' g' m p=>?_;refine WO e os c j p l λq r u x y z=>K q r u (m.trans x) y λt i=>?_;rw[z t (λA B=>i A (by simp[B])),ss v t (i o be)]
def uP:cQ:=λ_=>none
def oY(bu bi:Nat):bD:=⟨λ_ _=>none,λb=>if b=bu then .bM 0 else if b=bi then .bM 1 else .none,λid=>if id=0 then some bu else if id=1 then some bi else none⟩
def fo:AV->Bool|.bool _=>true|_=>false
variable {x:AV}{v:Value}
theorem bn.IW(ah:fo x=true)(h:bn g x v)(g':bD):bn g' x v:=by
 cases x<;>simp[fo]at ah;have:=h.oO;subst this;exact .pure _ _ (.bool _)
theorem Od(ah:fo x=true):cY x:=by
 cases x<;>simp[fo]at ah;exact pH _
variable {id b m:Nat}{es:List (AV×AV)}
theorem np.to{c:Nat}(h:np P g w id b m es)(j:∀e∈es,fo e.2=true)(k:g'.bO b=.bM c):np P g' w c b m es:=by
 obtain⟨arr,l,B,⟨dd,d,p,q⟩,r,t,u,y⟩:=h;refine⟨arr,l,k,⟨dd,d,p,λi e m he hm=>?_⟩,r,t,u,y⟩;obtain⟨z,f,A,C⟩:=q i e m he hm;have ae:=j e (d.mem_iff.1 (aKK he));exact⟨.pure _ _ (bn.ia f z),f,A.IW ae g',(Od ae).gG⟩
def Ch(bu:Nat):bD:=⟨λ_ _=>none,λb=>if b=bu then .bM 0 else .none,λid=>if id=0 then some bu else none⟩
variable {t:Nat}
theorem ara(h:np P g w id b m es)(c:∀e∈es,fo e.2=true)(aG:a.tmps.size=N)(hd:a.defers=[])(d:a.tmps[t]?=some (.map (some b))) :
  Rel P uP N (Ch b) ⟨[(t,.v (.map 0))],[.map m es]⟩ a w:=by
 have ae:b<w.heap.size:=by obtain⟨arr,f,_⟩:=h;exact(aKC.1 f).1
 refine⟨be,aG,hd,λu e he=>?_,λi bM aE=>?_,(λ_ _ _ h=>d6),λk hk=>?_,(λ_ _ h=>d6),λi k hk=>?_⟩
 ·simp only[Env.get]at he;split at he
  ·rename_i j;subst j;simp at he;subst he;exact⟨_,d,.map 0 b (by simp[Ch]),.mE be⟩
  ·cases he
 ·cases i with
  |zero=>simp at aE;subst aE;exact⟨b,by simp[Ch],h.to c (by simp[Ch])⟩|succ i=>simp at aE
 ·simp only[Ch]at hk;split at hk
  ·omega
  ·exact absurd rfl hk
 ·simp only[Ch]at hk;split at hk
  ·rename_i e;subst e;simp
  ·cases hk
structure pM(P:Program)(w:World)(bu bi m:Nat)(es:List (AV×AV))(seen:List AV):Prop where
 ne:bi≠bu
 mp:np P (oY bu bi) w 0 bu m es
 it:∃o,w.heap[bi]?=some o/\qf (oY bu bi) w m seen (some 0) o
variable {bu bi:Nat}{seen:List AV}
theorem pM.of(h:Rel P gl N g s a w)(l:∀e∈es,fo e.2=true)(p:s.heap[0]?=some (.map m es))(q:s.heap[1]?=some (.iter (some 0) m seen))
  (ae:g.cg 0=some bu)(al:g.cg 1=some bi):pM P w bu bi m es seen:=by
 obtain⟨b,f,k⟩:=h.heap 0 _ p;rw[ae]at f;simp at f;subst f;obtain⟨B,o,i,c,C,d⟩:=h.heap 1 _ q;rw[al]at i;simp at i;subst i;have cG:bi≠bu:=by
  rintro rfl;obtain⟨arr,r,_⟩:=k;rw[r]at c;simp at c;subst c;simp[qf]at d
 refine⟨cG,k.to l (by simp[oY]),o,c,?_⟩;cases o<;>simp only[qf]at d;rename_i mp D E last;cases mp with
 |none=>exact d.elim|some en =>
  obtain⟨j,G,u,y,z,A⟩:=d;rw[ae]at j;simp at j;subst j;exact⟨by simp[oY],by simp[oY],u,y,z,A⟩
theorem pM.keeps(h:pM P w bu bi m es seen)(q:∀e∈es,fo e.2=true)(hk:KeepsWalks w w'):pM P w' bu bi m es seen:=by
 obtain⟨cG,hm,o,aE,d⟩:=h;have f:w'.heap[bu]?=w.heap[bu]?:=by obtain⟨arr,c,_⟩:=hm;rw[c];exact hk.same _ _ c rfl
 cases o<;>simp only[qf]at d;rename_i mp T V last;have r:w'.heap[bi]?=w.heap[bi]?:=by rw[aE];exact hk.same _ _ aE rfl
 cases mp with
 |none=>exact d.elim|some en =>
  obtain⟨j,u,y,z,A,arr,k,B,l⟩:=d;have C:en=bu:=by simp[oY]at j;exact j.symm
  subst C;refine⟨cG,?_,_,r.trans aE,j,u,y,z,A.kept f,arr,k,f.trans B,l⟩;obtain⟨arr,c,D,⟨dd,p,E,G⟩,H,J,K,L⟩:=hm;refine⟨arr,f.trans c,D,⟨dd,p,E,λi e m he hm=>?_⟩,H,J,K,L⟩;obtain⟨O,R,S,W⟩:=G i e m he hm;exact⟨O,R,S,(Od (q e (p.mem_iff.1 (aKK he)))).gG⟩
theorem pM.rel(h:pM P w bu bi m es seen)(aG:a.tmps.size=N)(hd:a.defers=[])(d:a.tmps[t]?=some (ptrTo bi 0)) :
  Rel P uP N (oY bu bi) ⟨[(t,.v (.ptr 1 0))],[.map m es,.iter (some 0) m seen]⟩ a w:=by
 obtain⟨cG,hm,o,aE,f⟩:=h;have ae:bu<w.heap.size:=by obtain⟨arr,j,_⟩:=hm;exact(aKC.1 j).1
 have al:bi<w.heap.size:=(aKC.1 aE).1;refine⟨be,aG,hd,λu e he=>?_,λi bM c=>?_,(λ_ _ _ h=>d6),λk hk=>?_,(λ_ _ h=>d6),λi k hk=>?_⟩
 ·simp only[Env.get]at he;split at he
  ·rename_i l;subst l;simp at he;subst he;exact⟨_,d,.ptr 1 0 bi (by simp[oY]),.mE be⟩
  ·cases he
 ·match i,c with
  |0,c=>simp at c;subst c;exact⟨bu,by simp[oY],hm⟩|1,c=>simp at c;subst c;exact⟨bi,o,by simp[oY],aE,by simp[oY,cG],f⟩|i+2,c=>simp at c
 ·simp only[oY]at hk;split at hk
  ·omega
  ·grind
 ·simp only[oY]at hk;split at hk
  ·rename_i e;subst e;simp
  ·grind
def Oe(w:World)(bi:Nat):Nat:=match w.heap[bi]? with|some (.mapIter _ _ hn _)=>hn.size|_=>0
theorem pM.WQ(h:pM P w bu bi m es seen):Oe w bi=seen.length:=by
 obtain⟨cG,hm,o,aE,c⟩:=h;cases o<;>simp only[qf]at c;rename_i mp e f last;cases mp with
 |none=>exact c.elim|some en =>
  obtain⟨i,j,k,l,⟨L,p,q,d,_⟩,_⟩:=c;simp[Oe,aE,d]
def Of:Op->Bool|.move (.tmp t)=>t==0|_=>false
def Og:Op->Bool
 |.call c=>(match c.callee with|.value (.tmp t)=>t==10|_=>false)&&(match c.args.toList with|[.tmp t]=>t==11|_=>false)|_=>false
def IX(P:Program)(N:Nat):List Oper->Bool
 |[aM,x1]=>iW aM&&xL P N aM 4 (.t 1) 1 false&&iW x1&&kS P N x1 (.r6 5 (.t 4))|_=>false
def E1(P:Program)(N:Nat):List Oper->Bool
 |[x2,x3]=>iW x2&&H8 N x2 6 (.t 5)&&iW x3&&kS P N x3 (.ext 7 6 0)|_=>false
def E2(P:Program)(N:Nat)(jF:cW):List Oper->Bool
 |[iE,da,eN,fQ]=>iW iE&&cZ N iE 10&&Of iE.op&&iW da&&kS P N da jF&&iW eN&&cZ N eN 12&&Og eN.op&&iW fQ&&kS P N fQ (.qa 13 (.t 12))|_=>false
def oZ(t:Nat)(l:List Oper):Bool:=l.all λo=>o.dst != some t
def Ci(P:Program)(N:Nat)(pre:List cW)(jF:cW):Code->Bool
 |.seq (.region _ Cj false) (.block mS (.loop (.seq (.region _ l2 false) (.seq (.cond (.tmp t7) .skip (.exit WR)) (.block _ (.seq (.region _ jx false) (.seq (.region _ mg false) (.cond (.tmp t13) .ret .skip)))))))) =>
  WR==mS&&t7==7&&t13==13&&decide (13<N)&&IX P N Cj.toList&&E1 P N l2.toList&&tA P N jx.toList ([.oK 8 (.t 5),.ext 9 8 0]++pre)&&E2 P N jF mg.toList &&
   oZ 0 Cj.toList&&oZ 0 l2.toList&&oZ 0 jx.toList&&oZ 0 mg.toList&&oZ 5 l2.toList&&oZ 5 jx.toList&&oZ 5 mg.toList&&oZ 10 ((mg.toList.drop 1).take 1)
 |_=>false
theorem arc{l:Nat}{x:Value}{r:Next}{w':World}(aE:Og o.op=true)(f:a.tmps[10]?=some (.func (.yield l) #[] #[]))(h:a.tmps[11]?=some x)
  (i:(Instr.yield l #[x]).run P w=.ok r w'):(execOp a.eval o).run P w=.ok r w':=by
 unfold Og at aE;split at aE
 ·rename_i c j;simp only[aKB]at aE;obtain⟨d,e⟩:=aE;split at d
  ·rename_i t k;split at e
   ·rename_i u p;simp only[beq_iff_eq]at d e;subst d e;have q:a.eval (.tmp 10)=.func (.yield l) #[] #[]:=by simp[Act.eval,aKD,f]
    have y:c.args.map a.eval=#[x]:=by
     apply Array.ext';simp[p,Act.eval,aKD,h]
    simp only[execOp,j,resolve,k,q,y,Deferred.ofValue,Sem.run_bind,Sem.run_pure,Result.andThen_ok,invoke];simpa using i
   ·cases e
  ·cases d
 ·cases aE
theorem ard(aE:Of o.op=true)(c:a.tmps[0]?=some v):(execOp a.eval o).run P w=.ok (.value v) w:=by
 unfold Of at aE;split at aE
 ·rename_i t d;simp only[beq_iff_eq]at aE;subst aE;simp[execOp,d,Act.eval,aKD,c]
 ·cases aE
end
section
variable {P:Program}{gl:cQ}{N:Nat}{g g':bD}{s s':au}{a:Act}{w w':World}{F:Fence}{n:Nat}{Q:Exit->Act->World->Prop}{ops:Array Oper}{rest:List Oper}{o:Oper}
def g0:bD:=⟨λ_ _=>none,λ_=>.none,λ_=>none⟩
def uQ(w:World):bD:=⟨λ_ _=>none,λb=>if b<w.heap.size then .outer else .none,λ_=>none⟩
theorem grown_of(h:eL (uQ w) w g' w'):w.grownBy w' none :=
 ⟨congrArg Prod.fst h.os,congrArg Prod.snd h.os,h.out,h.size,λk hk _=>(h.outer k (by simp[uQ,hk])).2.1⟩
theorem E3(aG:a.tmps.size=N)(hd:a.defers=[]){e:List (Nat×AV)}(ax:e.Pairwise λp q=>p.1<q.1)(he:∀p∈e,∃v,a.tmps[p.1]?=some v/\bn (uQ w) p.2 v/\cY p.2) :
  Rel P uP N (uQ w) ⟨e.map λp=>(p.1,.v p.2),[]⟩ a w:=by
 refine⟨by rw[List.pairwise_map];exact ax,aG,hd,λt x ah=>?_,λi bM aE=>by simp at aE,(λ_ _ _ h=>d6),λb ae=>?_,(λ_ _ h=>d6),(λ_ _ h=>d6)⟩
 ·have:=Env.tc ah;obtain⟨p,ar,c⟩:=aKI.1 this;simp only[Prod.mk.injEq]at c;obtain⟨rfl,rfl⟩:=c;obtain⟨v,d,f,j⟩:=he p ar;exact⟨v,d,f,j.gG⟩
 ·by_cases h:b<w.heap.size
  ·exact h
  ·simp[uQ,h]at ae
def su(pre:List cW)(jF:cW)(k:AV):Prop :=
 ∃s2,Ce uP pre ⟨[(9,.v k)],[]⟩=some s2/\e9 s2.env 10=true/\∃j2,aJ uP { s2 with env:=s2.env.del 10 } jF=some j2/\j2.env.get 11=some (.v k)
theorem are(s:List UInt8):su [.hV 3 (.t 9)] (.hV 11 (.t 3)) (.str s):=⟨_,rfl,rfl,_,rfl,rfl⟩
theorem arf(z cs:List AV)(j:z.length=3)(d:cs.length=3)(h:∀c∈cs,(match c with|.str _|.int _ _|.bool _=>true|_=>false)=true):su [.alloc 3 z,.st 3 (.t 3) (.t 9)] (.ld 11 (.t 3) 3 true) (.agg cs):=by
 match z,cs,j,d with
 |[z0,m,z2],[b,c1,c2],_,_ =>
  have e:∀c∈[b,c1,c2],c.one=true/\c.a1=c:=λc d=>by
   have:=h c d;cases c<;>simp at this<;>exact⟨rfl,rfl⟩
  obtain⟨a0,f⟩:=e b be;obtain⟨k,i⟩:=e c1 be;obtain⟨l,en⟩:=e c2 be;refine⟨⟨[(3,.b [b,c1,c2]),(9,.v (.agg [b,c1,c2]))],[]⟩,?_,rfl,⟨[(3,.b [b,c1,c2]),(9,.v (.agg [b,c1,c2])),(11,.v (.agg [b,c1,c2]))],[]⟩,?_,rfl⟩
  ·simp[Ce,aJ,au.lZ,mD,hc,Env.ins,eQ,Env.get,br,AV.cells,a0,k,l,f,i,en,bb,setCells]
  ·simp[aJ,eQ,Env.get,Env.del,bd,f,i,en,au.put,e9,Env.ins]
variable {x:AV}
theorem arh{y:AV}(ah:ia x=true)(h:dS x y=false):x≠y:=λe=>by
 simp_all[BM]
theorem ari(h:ia x=true):cY x:=by
 cases x<;>simp only[ia,aKJ]at h<;>exact λ_ _ _ h=>by simp at h
structure IY(P:Program)(N l bu bi m:Nat)(es:List (AV×AV))(J:List Value->World->Prop)(a:Act)(w:World)(seen:List AV)(xs:List Value):Prop where
 size:a.tmps.size=N
 defers:a.defers=[]
 E4:a.tmps[0]?=some (.func (.yield l) #[] #[])
 it:a.tmps[5]?=some (ptrTo bi 0)
 E5:pM P w bu bi m es seen
 nw:cS g0 seen xs
 nodup:seen.Nodup
 mem:∀k∈seen,k∈es.map (·.1)
 j:J xs w
variable {m:Nat}{es:List (AV×AV)}
theorem nodup_keys{b id:Nat}(h:np P g w id b m es):(es.map (·.1)).Nodup/\∀e∈es,ia e.1=true:=by
 obtain⟨arr,k,l,⟨dd,d,p,f⟩,q,r,j,t⟩:=h;have hk:∀e∈es,ia e.1=true:=λe he=>by
  obtain⟨i,al,c⟩:=List.getElem_of_mem (d.mem_iff.2 he);exact(f i e _ (by rw[<-c];exact List.getElem?_eq_getElem al) (List.getElem?_eq_getElem am)).2.1
 refine⟨?_,hk⟩;rw[List.Nodup,List.pairwise_map];exact j.imp_of_mem λaG ae h=>arh (hk _ aG) h
theorem cS.len{xs:List AV}{vs:List Value}(h:cS g xs vs):vs.length=xs.length:=h.get.1
variable {bu bi:Nat}{seen:List AV}
theorem ark(h:pM P w bu bi m es seen):∃o:Obj,w.heap[bi]?=some o/\o.isWalk=true:=by
 obtain⟨cG,hm,o,aE,b⟩:=h;cases o<;>simp only[qf]at b;exact⟨_,aE,rfl⟩
theorem IZ(h:pM P w bu bi m es seen)(c:∀e∈es,fo e.2=true)(b:w.grownBy w' none):pM P w' bu bi m es seen :=
 h.keeps c ⟨b.size,λk o hk _=>(b.block k (aKC.1 hk).1 be).trans hk⟩
section
variable {l bu bi m:Nat}{es:List (AV×AV)}{J Jx:List Value->World->Prop}{pre:List cW}{jF:cW}{seen:List AV}{xs:List Value}{i1 i2 i3 mS dZ B:Nat}{l2 jx mg:Array Oper}{x2 x3 iE da eN fQ z0 gB:Oper}{iD:List Oper}
theorem arl{k:AV}{es:List (AV×AV)}(hk:ia k=true):∀{e},e∈es->e.1=k->∃v,hl es k=some v:=by
 induction es with
 |nil=>intro e h;cases h|cons p r ih =>
  intro e h he;obtain⟨c,u⟩:=p;simp only[hl];by_cases b:dS k c=true
  ·exact⟨u,by simp[b]⟩
  ·rcases List.mem_cons.1 h with rfl|h
   ·simp only at he;subst he;exact absurd (BM hk) b
   ·grind
variable {p:Value->Prop}
theorem arn(z:∀f,F.fn f)(aI:F.depth.isSome=true->1<=n)(D:∀e∈es,fo e.2=true)(hk:∀e∈es,su pre jF e.1)(mO:13<N)(fN:B<=bi)
  (mT:l2.toList=[x2,x3])(o0:jx.toList=z0::gB::iD)(I0:mg.toList=[iE,da,eN,fQ])
  (c1:E1 P N [x2,x3]=true)(c2:tA P N (z0::gB::iD) (.oK 8 (.t 5)::.ext 9 8 0::pre)=true)(gv:E2 P N jF [iE,da,eN,fQ]=true)
  (ee:oZ 0 [x2,x3]=true)(c9:oZ 0 (z0::gB::iD)=true)(fP:oZ 0 [iE,da,eN,fQ]=true)(m1:oZ 5 [x2,x3]=true)(m5:oZ 5 (z0::gB::iD)=true)(m3:oZ 5 [iE,da,eN,fQ]=true)(fp:oZ 10 [da]=true)
  (L:AbidesFrom B J)
  (ar:∀e∈es,∀v,bn g0 e.1 v->p v)(fv:∀pre x ru,J pre ru->p x->pre.length<es.length->YieldAt F (n-1) P l #[x] ru λe c=>(e=.returned (.bool true)/\J (pre++[x]) c/\KeepsWalks ru c)\/(e=.returned (.bool false)/\Jx (pre++[x]) c))
  (h:IY P N l bu bi m es J a w seen xs)(aro:∀A w',A.defers=[]->seen.Perm (es.map (·.1))->J xs w'->Q .normal A w')
  (arp:∀A w' pre,A.defers=[]->Jx pre w'->Q .ret A w')(E6:∀pre W c,Jx pre W->W.grownBy c none->Jx pre c)(T:Act->World->Prop)(gq:∀A w' k x,IY P N l bu bi m es J A w' (seen++[k]) (xs++[x])->T A w') :
  (Code.seq (.region i1 l2 false) (.seq (.cond (.tmp 7) .skip (.exit mS)) (.block dZ (.seq (.region i2 jx false) (.seq (.region i3 mg false) (.cond (.tmp 13) .ret .skip)))))).wpIn F n P (Exit.then T (Exit.inBlock mS Q)) a w:=by
 simp only[E1,E2,aKB]at c1 gv;obtain⟨⟨⟨aV,cO⟩,bP⟩,er⟩:=c1;obtain⟨⟨⟨⟨⟨⟨⟨⟨⟨gI,d0⟩,m0⟩,aj⟩,cV⟩,av⟩,d2⟩,m2⟩,aQ⟩,eX⟩:=gv;simp only[oZ,List.all_cons,List.all_nil,Bool.and_true,aKB,bne_iff_ne,ne_eq]at ee c9 fP m1 m5 m3 fp;have V:=h.E5.rel h.size h.defers h.it;obtain⟨zZ,uD⟩:=nodup_keys h.E5.mp;have kd:r9 [ay.map m es,.iter (some 0) m seen] (.ptr 1 0)=some (1,some 0,m,seen,es.filter λe=>!seen.any (dS e.1)):=by simp[r9]
 refine wpIn_seq (wpIn_region_list ?_);rw[mT];simp only[H8,aKB]at cO;obtain⟨NO,Oh⟩:=cO;split at Oh
 case h_2=>cases Oh
 rename_i sk arq;have WT:x2.dst=some 6:=by simp only[cZ,aKB,beq_iff_eq]at NO;exact NO.1
 have gx:∀(a:Act)(d t:Nat)(v:Value),a.tmps.size=N->d<N->(a.put (some d) v).tmps[t]?=if t=d then some v else a.tmps[t]?:=λa d t v aG hd=>td (by rw[aG];exact hd) v t;unfold wpListIn;rw[if_pos (wq aV)];refine⟨λf _=>z f,?_⟩;rw[Oper.semAt_eq _ _ _ (wu aV)];rcases Vw V arq Oh (x:=.ptr 1 0) rfl kd with⟨ob,cT⟩|⟨e,he,ba,v,cT,hle,hN,ars,vW⟩
 · -- nothing is left
  rw[cT];show wpListIn F n P l2 _ [x3] (a.put x2.dst _) w;rw[WT];have rj:Rel P uP N (uQ w) _ (a.put (some 6) (.tuple #[.bool false])) w:=E3 (N:=N) (a:=a.put (some 6) (.tuple #[.bool false])) (e:=[(6,.bg [.bool false])]) kW h.defers be (λp ar=>by
   simp at ar;subst ar;exact⟨_,by rw[gx _ _ _ _ h.size am];simp,.bg _ [.bool false] (.cons _ _ _ _ (.pure _ _ (.bool _)) .nil),λ_ _ _ h=>f9⟩)
  refine Cg z bP (wg rj er rfl) λv w' g' bT i=>?_;refine wpListIn_nil ?_;show(Code.seq _ _).wpIn F n P _ _ _;obtain⟨u,X,Y,_⟩:=i.env 7 (.v (.bool false)) rfl;have:=Y.oO;subst this;refine wpIn_seq (wpIn_cond_false (by simp[Act.eval,aKD,X]) (wpIn_exit ?_));simp only[Exit.then,Exit.inBlock,if_true];refine aro _ _ i.defers ?_ (L xs w w' none h.j (grown_of bT) (λr e=>mo));refine(List.perm_ext_iff_of_nodup h.nodup zZ).2 λk=>⟨h.mem k,λhk=>?_⟩;obtain⟨e,he,rfl⟩:=aKI.1 hk;rw[List.filter_eq_nil_iff]at ob;have E:=ob e he;simp only[Bool.not_eq_true,Bool.not_eq_false',List.any_eq_true]at E;obtain⟨k',j,Ev⟩:=E;obtain⟨cB,te,art⟩:=aKI.1 (h.mem k' j);have:e.1=k':=Nh (uD e he) (by rw[<-art];exact uD cB te) Ev;rw[this];exact j
 · -- an entry has come
  rw[List.mem_filter]at he;obtain⟨Z,z1⟩:=he;have C:=uD e Z;have Oi:e.1∉seen:=λsf=>by
   simp only[Bool.not_eq_true',List.any_eq_false]at z1;exact z1 e.1 sf (BM C)
  have aru:=vW bi (by simp[oY]);have k8:pM P ba bu bi m es (seen++[e.1]):=.of ars D be be (by simp[oY]) (by simp[oY]);have l3:J xs ba:=L xs w ba _ h.j aru (λr e=>by cases e;exact⟨fN,ark h.E5⟩);have dX:=D e Z;have n9:e.2.a1=e.2:=by generalize e.2=y at dX;cases y<;>simp[fo]at dX<;>rfl
  have arv:e.1.a1=e.1:=by generalize e.1=y at C;cases y<;>simp only[ia,aKJ]at C<;>rfl
  have Fa:∀g,bn g (.bg [.bool true,e.1,e.2]) v:=by
   intro g;obtain⟨ws,rfl,pE⟩:=hN.L7;cases pE with
   |cons _ _ u us G E=>cases E with
    |cons _ _ k9 WU an a6=>cases a6 with
     |cons _ _ aN3 arw bY dT =>
      cases dT;rw[n9]at bY;exact .bg _ _ (.cons _ _ _ _ (G.IW rfl g) (.cons _ _ _ _ (.pure _ _ (bn.ia C an)) (.cons _ _ _ _ (bY.IW dX g) .nil)))
  rw[cT];show wpListIn F n P l2 _ [x3] (a.put x2.dst _) ba;rw[WT];have rj:Rel P uP N (uQ ba) _ (a.put (some 6) v) ba:=E3 (N:=N) (a:=a.put (some 6) v) (e:=[(6,.bg [.bool true,e.1,e.2])]) kW h.defers be (λp ar=>by
   simp at ar;subst ar;exact⟨_,by rw[gx _ _ _ _ h.size am];simp,Fa _,λ_ _ _ h=>f9⟩)
  refine Cg z bP (wg rj er rfl) λv1 O g2 bT i=>?_;generalize kT:(a.put (some 6) v).put x3.dst v1=a2 at i;have mM:a2.tmps[0]?=a.tmps[0]?:=by rw[<-kT,ss v1 0 ee.2,gx _ _ _ _ h.size am];simp
  have qt:a2.tmps[5]?=a.tmps[5]?:=by rw[<-kT,ss v1 5 m1.2,gx _ _ _ _ h.size am];simp
  clear kT;refine wpListIn_nil ?_;show(Code.seq _ _).wpIn F n P _ _ _;obtain⟨u,X,Y,_⟩:=i.env 7 (.v (.bool true)) rfl;have:=Y.oO;subst this;refine wpIn_seq (wpIn_cond_true (by simp[Act.eval,aKD,X]) (wpIn_skip ?_));show(Code.block _ _).wpIn F n P _ _ _;refine wpIn_block (wpIn_seq (wpIn_region_list ?_));rw[o0];have oh:=grown_of bT;have jf:=IZ k8 D oh;have yj:J xs O:=L xs ba O _ l3 oh (λr e=>mo);have arx:=jf.rel i.size i.defers (qt.trans h.it);simp only[tA,aKB]at c2;obtain⟨⟨f0,f1⟩,⟨f2,f3⟩,f4⟩:=c2;obtain⟨q,ey⟩:∃q,hl es e.1=some q:=arl C Z rfl;obtain⟨wv,Fb,aH,aR,fe,nz,Fc⟩:=Vt (s':=⟨[(5,.v (.ptr 1 0)),(8,.v (.bg [e.1,q.a1]))],[.map m es,.iter (some 0) m (seen++[e.1])]⟩) arx f1 (by simp[aJ,br,Env.get,ey,au.put,e9,Env.ins]);have ary:z0.dst=some 8:=by simp only[cZ,aKB,beq_iff_eq]at aH;exact aH.1
  have arz:wv=.bg [e.1,q.a1]:=by
   simp only[au.put,e9,Env.get]at aR;simp[Env.ins]at aR;exact aR
  subst arz;obtain⟨k',arA,_⟩:=Nl ey;have fS:fo q=true:=D _ arA;have arB:q.a1=q:=by cases q<;>simp[fo]at fS<;>rfl
  rw[arB]at fe;have arC:∀g,bn g (.bg [e.1,q]) Fb:=by
   intro g;obtain⟨ws,rfl,pE⟩:=fe.L7;cases pE with
   |cons _ _ u us G E=>cases E with
    |cons _ _ k9 WU an a6 =>
     cases a6;exact .bg _ _ (.cons _ _ _ _ (.pure _ _ (bn.ia C G)) (.cons _ _ _ _ (an.IW fS g) .nil))
  unfold wpListIn;rw[if_pos (wq f0)];refine⟨λf _=>z f,?_⟩;rw[Oper.semAt_eq _ _ _ (wu f0),Fc];show wpListIn F n P jx _ (gB::iD) (a2.put z0.dst Fb) O;rw[ary];have z3:Rel P uP N (uQ O) _ (a2.put (some 8) Fb) O:=E3 (N:=N) (a:=a2.put (some 8) Fb) (e:=[(8,.bg [e.1,q])]) (by simp[Act.put,i.size]) i.defers be (λp ar=>by
   simp at ar;subst ar;exact⟨_,by rw[gx _ _ _ _ i.size am];simp,arC _,λ_ _ _ h=>f9⟩)
  refine Cg z f2 (wg (s':=⟨[(8,.v (.bg [e.1,q])),(9,.v e.1)],[]⟩) z3 f3 (by simp[aJ,Env.get,au.put,e9,Env.ins,arv])) λv9 fu g3 t1 t2=>?_;generalize Oj:(a2.put (some 8) Fb).put gB.dst v9=a4 at t2;have arD:a4.tmps[0]?=a.tmps[0]?:=by rw[<-Oj,ss v9 0 c9.2.1,gx _ _ _ _ i.size am];simpa using mM
  have arE:a4.tmps[5]?=a.tmps[5]?:=by rw[<-Oj,ss v9 5 m5.2.1,gx _ _ _ _ i.size am];simpa using qt
  clear Oj;have Fe:=grown_of t1;have D6:=IZ jf D Fe;have arF:J xs fu:=L xs O fu _ yj Fe (λr e=>mo);obtain⟨mK,arG,arH,_⟩:=t2.env 9 (.v e.1) rfl;have gH:∀g,bn g e.1 mK:=λg=>.pure _ _ (bn.ia C arH);obtain⟨s2,bG,ev,j2,py,v7⟩:=hk e Z;have z4:Rel P uP N (uQ fu) _ a4 fu:=E3 (N:=N) (a:=a4) (e:=[(9,e.1)]) t2.size t2.defers be (λp ar=>by
   simp at ar;subst ar;exact⟨mK,arG,gH _,ari C⟩)
  rw[<-List.append_nil iD];refine WO z iD pre f4 z4 bG λg5 a5 wx t3 t4 t5=>wpListIn_nil ?_;show(Code.seq _ _).wpIn F n P _ a5 wx;have WV:a5.tmps[0]?=a.tmps[0]?:=(t5 0 (λo aE=>by have:=aKH.1 c9.2.2 o aE;simpa using this)).trans arD;have arI:a5.tmps[5]?=a.tmps[5]?:=(t5 5 (λo aE=>by have:=aKH.1 m5.2.2 o aE;simpa using this)).trans arE;refine wpIn_seq (wpIn_region_list ?_);rw[I0]
  -- the call
  have arJ:iE.dst=some 10:=by simp only[cZ,aKB,beq_iff_eq]at d0;exact d0.1
  have arK:eN.dst=some 12:=by simp only[cZ,aKB,beq_iff_eq]at d2;exact d2.1
  unfold wpListIn;rw[if_pos (wq gI)];refine⟨λf _=>z f,?_⟩;rw[Oper.semAt_eq _ _ _ (wu gI),ard m0 (WV.trans h.E4)];show wpListIn F n P mg _ [da,eN,fQ] (a5.put iE.dst _) wx;rw[arJ];have t6:=t4.forget (v:=.func (.yield l) #[] #[]) ev am;refine Cg z aj (wg t6 cV py) λI1 I2 g6 ca H=>?_;generalize I3:(a5.put (some 10) (.func (.yield l) #[] #[])).put da.dst I1=K at H;have arL:K.tmps[0]?=a.tmps[0]?:=by rw[<-I3,ss I1 0 fP.2.1,gx _ _ _ _ t4.size am];simpa using WV
  have arM:K.tmps[5]?=a.tmps[5]?:=by rw[<-I3,ss I1 5 m3.2.1,gx _ _ _ _ t4.size am];simpa using arI
  have arN:K.tmps[10]?=some (.func (.yield l) #[] #[]):=by rw[<-I3,ss I1 10 fp,gx _ _ _ _ t4.size am];simp
  clear I3;have WW:=grown_of (t3.trans ca);have arO:=IZ D6 D WW;have arP:J xs I2:=L xs fu I2 _ arF WW (λr e=>mo);obtain⟨R,arQ,arR,_⟩:=H.env 11 (.v e.1) v7;have WX:∀g,bn g e.1 R:=λg=>.pure _ _ (bn.ia C arR);have pB:(seen++[e.1]).Nodup:=by
   rw[List.nodup_append];exact⟨h.nodup,be,λa aG b ae=>by simp at ae;subst ae;rintro rfl;exact Oi aG⟩
  have sg:∀k∈seen++[e.1],k∈es.map (·.1):=λk j=>by
   rcases List.mem_append.1 j with j|j
   ·exact h.mem k j
   ·grind
  have hlen:xs.length<es.length:=by
   have G:=List.Nodup.length_le_of_subset pB (λk j=>sg k j);have E:=h.nw.len;simp at G;omega
  obtain⟨ry,Ol,as,eS,a7,de⟩:=fv xs R I2 arP (ar e Z R (WX _)) hlen;unfold wpListIn;rw[if_pos (wq av)];refine⟨λf _=>z f,?_⟩;rw[Oper.semAt_eq _ _ _ (wu av),arc m2 arN arQ a7];refine⟨aI,de.mono ?_⟩;have key:∀(cB:Ending)(c:World)(b:Bool),cB=.returned (.bool b)->(b=true->J (xs++[R]) c/\KeepsWalks I2 c)->(b=false->Jx (xs++[R]) c) ->
    wpListIn F n P mg (Exit.then (λA w'=>(Code.cond (.tmp 13) .ret .skip).wpIn F n P (Exit.inBlock dZ (Exit.then T (Exit.inBlock mS Q))) A w') (Exit.inBlock dZ (Exit.then T (Exit.inBlock mS Q)))) [fQ] (K.put eN.dst (.bool b)) c:=by
   rintro _ c b rfl aB aW;rw[arK];have z5:Rel P uP N (uQ c) _ (K.put (some 12) (.bool b)) c:=E3 (N:=N) (a:=K.put (some 12) (.bool b)) (e:=[(12,.bool b)]) (by simp[Act.put,H.size]) H.defers be (λp ar=>by
    simp at ar;subst ar;exact⟨_,by rw[gx _ _ _ _ H.size am];simp,.pure _ _ (.bool b),pH b⟩)
   refine Cg z aQ (wg (s':=⟨[(12,.v (.bool b)),(13,.v (.bool (!b)))],[]⟩) z5 eX (by rfl)) λOm I4 g7 x1 x2=>?_;generalize On:(K.put (some 12) (.bool b)).put fQ.dst Om=S at x2;have arS:S.tmps[0]?=a.tmps[0]?:=by rw[<-On,ss Om 0 fP.2.2.2,gx _ _ _ _ H.size am];simpa using arL
   have arT:S.tmps[5]?=a.tmps[5]?:=by rw[<-On,ss Om 5 m3.2.2.2,gx _ _ _ _ H.size am];simpa using arM
   clear On;refine wpListIn_nil ?_;show(Code.cond _ _ _).wpIn F n P _ S I4;have Oo:=grown_of x1;obtain⟨u,X,Y,_⟩:=x2.env 13 (.v (.bool (!b))) rfl;have:=Y.oO;subst this;have ef:S.eval (.tmp 13)=.bool (!b):=by simp[Act.eval,aKD,X]
   cases b with
   |true =>
    obtain⟨se,j⟩:=aB rfl;refine wpIn_cond_false ef (wpIn_skip ?_);show T S I4;exact gq _ _ e.1 R ⟨x2.size,x2.defers,arS.trans h.E4,arT.trans h.it,IZ (arO.keeps D j) D Oo,h.nw.append (.cons _ _ _ _ (WX _) .nil),pB,sg,L _ c I4 _ se Oo (λr e=>mo)⟩
   |false =>
    refine wpIn_cond_true ef (wpIn_ret ?_);show Q .ret S I4;exact arp _ _ _ x2.defers (E6 _ _ _ (aW rfl) Oo)
  rintro cB c (⟨rfl,G,E⟩|⟨rfl,G⟩)
  ·grind
  ·grind
theorem arU{l:List Oper}(h:IX P N l=true):∃b x1,l=[b,x1]:=by
 unfold IX at h;split at h
 ·exact⟨_,_,rfl⟩
 ·cases h
theorem arV{l:List Oper}(h:E1 P N l=true):∃b x1,l=[b,x1]:=by
 unfold E1 at h;split at h
 ·exact⟨_,_,rfl⟩
 ·cases h
theorem arW{jF:cW}{l:List Oper}(h:E2 P N jF l=true):∃b x1 x2 x3,l=[b,x1,x2,x3]:=by
 unfold E2 at h;split at h
 ·exact⟨_,_,_,_,rfl⟩
 ·cases h
theorem arX{a b:cW}{pre:List cW}:∀{l:List Oper},tA P N l (a::b::pre)=true->∃c x1 iD,l=c::x1::iD
 |[],h=>by simp[tA]at h|[_],h=>by simp[tA]at h|x::y::r,_=>⟨x,y,r,rfl⟩
theorem arY(C:∀f,F.fn f)(wo:F.round=none)(aI:F.depth.isSome=true->1<=n){iG:Nat}{fn:Func}{c:Code}{pre:List cW}{jF:cW}(aW:P.funcs[iG]?=some fn)(ae:fn.body=some c)
  (wb:fn.results=#[])(y:Ci P fn.ntmps pre jF c=true){id bu m j l:Nat}{es:List (AV×AV)}(K:∀e∈es,fo e.2=true)(hk:∀e∈es,su pre jF e.1)
  (hm:np P g w id bu m es)(Ff:w.cell? ⟨j,0,none⟩=some (.map (some bu))){J Jx:List Value->World->Prop}(tB:AbidesFrom w.heap.size J)(E6:∀pre W h,Jx pre W->W.grownBy h none->Jx pre h)
  (ar:∀e∈es,∀v,bn g0 e.1 v->p v)(fv:∀pre x L,J pre L->p x->pre.length<es.length->YieldAt F (n-1) P l #[x] L λe h=>(e=.returned (.bool true)/\J (pre++[x]) h/\KeepsWalks L h)\/(e=.returned (.bool false)/\Jx (pre++[x]) h))
  (aK:J [] w):CallsIn F n P iG #[.func (.yield l) #[] #[],ptrTo j 0] w λe h=>(∃v,e=.returned v) /\
   ((∃xs,(∃ks,ks.Perm (es.map (·.1))/\cS g0 ks xs)/\J xs h)\/(∃pre,True/\Jx pre h)):=by
 unfold Ci at y;split at y
 case h_2=>cases y
 rename_i i0 Cj mS i1 l2 t7 WR dZ i2 jx i3 mg t13;simp only[aKB,beq_iff_eq,decide_eq_true_eq]at y;obtain⟨⟨⟨⟨⟨⟨⟨⟨⟨⟨⟨⟨⟨⟨⟨rfl,rfl⟩,rfl⟩,mO⟩,D⟩,O⟩,R⟩,S⟩,ID⟩,ee⟩,c9⟩,fP⟩,m1⟩,m5⟩,m3⟩,fp⟩:=y;obtain⟨V,z,I5⟩:=arU D;obtain⟨x2,x3,mT⟩:=arV O;obtain⟨z0,gB,iD,o0⟩:=arX R;obtain⟨iE,da,eN,fQ,I0⟩:=arW S;rw[I5]at D ID;rw[mT]at O ee m1;rw[o0]at R c9 m5;rw[I0]at S fP m3 fp;simp only[IX,aKB]at D;obtain⟨⟨⟨qu,i⟩,E⟩,b⟩:=D;refine callsIn_of_wp aW ae (C _) ?_ wo;have X:(#[Value.func (.yield l) #[] #[],ptrTo j 0]++aKF (fn.ntmps-2) undef).size=fn.ntmps:=by simp;omega
 show Code.wpIn _ _ _ _ _ { tmps:=#[Value.func (.yield l) #[] #[],ptrTo j 0]++aKF (fn.ntmps-2) undef,defers:=[] } w;generalize ej:(#[Value.func (.yield l) #[] #[],ptrTo j 0]++aKF (fn.ntmps-2) undef)=T at X;have Oq:T[0]?=some (.func (.yield l) #[] #[]):=by rw[<-ej];simp[aKG]
 have EW:T[1]?=some (ptrTo j 0):=by rw[<-ej];simp[aKG]
 clear ej;refine wpIn_seq (wpIn_region_list ?_);rw[I5];have Y:V.dst=some 4:=by simp only[xL,cZ,aKB,beq_iff_eq]at i;exact i.1.1
 have z6:(execOp ({ tmps:=T,defers:=[] }:Act).eval V).run P w=.ok (.value (.map (some bu))) w:=by
  simp only[xL,aKB]at i;obtain⟨_,i⟩:=i;split at i
  ·rename_i t Z aO;simp only[aKB]at i;obtain⟨⟨ah,_⟩,hk⟩:=i;have oT:Z=.tmp 1:=by unfold dJ at ah;split at ah<;>simp_all
   subst oT;have ef:({ tmps:=T,defers:=[] }:Act).eval (.tmp 1)=ptrTo j 0:=by simp[Act.eval,aKD,EW]
   simp only[execOp,aO,Sem.run_bind,ef];split at hk
   ·simp at hk
   ·simp at hk
   ·rename_i pv jz vL n1;rw[HK n1 ⟨λdC e=>jz dC e,λn e cB=>vL n e cB⟩ Ff];rfl
   ·cases hk
  ·cases i
 unfold wpListIn;rw[if_pos (wq qu)];refine⟨λf _=>C f,?_⟩;rw[Oper.semAt_eq _ _ _ (wu qu),z6];show wpListIn F n P Cj _ [z] (Act.put { tmps:=T,defers:=[] } V.dst _) w;rw[Y];have gx:∀(a:Act)(d t:Nat)(v:Value),a.tmps.size=fn.ntmps->d<fn.ntmps->(a.put (some d) v).tmps[t]?=if t=d then some v else a.tmps[t]?:=λa d t v aG hd=>td (by rw[aG];exact hd) v t;have de:=ara (N:=fn.ntmps) (a:=Act.put { tmps:=T,defers:=[] } (some 4) (.map (some bu))) (t:=4) hm K (by simp[Act.put,X]) rfl (by rw[gx _ _ _ _ X am];simp);generalize wz:Act.put { tmps:=T,defers:=[] } (some 4) (.map (some bu))=A at de;have ar0:A.tmps[0]?=some (.func (.yield l) #[] #[]):=by grind
 have WY:A.tmps[4]?=some (.map (some bu)):=by grind
 clear wz;have WZ:z.dst=some 5:=by simp only[kS,Ex,cZ,aKB,beq_iff_eq]at b;exact b.1.1
 have pD:(execOp A.eval z).run P w=.ok (.value (ptrTo w.heap.size 0)) (w.alloc (.mapIter (some bu) m #[] m)):=by
  simp only[kS,Ex,aKB]at b;obtain⟨_,b⟩:=b;split at b
  ·rename_i t Z aO;simp only[aKB]at b;obtain⟨ah,hk⟩:=b;have oT:Z=.tmp 4:=by unfold dJ at ah;split at ah<;>simp_all
   subst oT;have ef:A.eval (.tmp 4)=.map (some bu):=by simp[Act.eval,aKD,WY]
   obtain⟨arr,E,_⟩:=hm;split at hk
   ·rename_i eM hP hu;simp only[execOp,aO,ef,Sem.run_bind,run_range_map hu E,Result.andThen_ok,Sem.run_pure]
   ·cases hk
  ·cases b
 obtain⟨v5,ba,g1,aH,aR,u⟩:=wg (s':=⟨[(4,.v (.map 0)),(5,.v (.ptr 1 0))],[.map m es,.iter (some 0) m []]⟩) de b (by rfl);have ar1:v5=ptrTo w.heap.size 0/\ba=w.alloc (.mapIter (some bu) m #[] m):=by grind
 obtain⟨rfl,rfl⟩:=ar1;unfold wpListIn;rw[if_pos (wq E)];refine⟨λf _=>C f,?_⟩;rw[Oper.semAt_eq _ _ _ (wu E),pD];rw[Oper.uponIn_value];refine wpListIn_nil ?_;show(Code.block _ _).wpIn F n P _ _ _;generalize G:A.put z.dst (ptrTo w.heap.size 0)=a2 at u;have ar2:¬z.dst=some 0:=by grind
 have ar3:a2.tmps[0]?=some (.func (.yield l) #[] #[]):=by rw[<-G,ss _ 0 ar2];exact ar0
 have ar4:a2.tmps[4]?=some (.map (some bu)):=by rw[<-G,ss _ 4 (by rw[WZ];simp)];exact WY
 have W0:a2.tmps[5]?=some (ptrTo w.heap.size 0):=by rw[<-G,WZ,gx _ _ _ _ de.size am];simp
 clear G;obtain⟨o1,W1,ar5,_⟩:=u.env 4 (.v (.map 0)) rfl;obtain⟨q,ar6,rfl⟩:=ar5.vJ;obtain⟨aN4,W2,ar7,_⟩:=u.env 5 (.v (.ptr 1 0)) rfl;obtain⟨bi,ar8,rfl⟩:=ar7.tf;have si:q=bu:=by rw[ar4]at W1;simpa using W1.symm
 have ar9:bi=w.heap.size:=by rw[W0]at W2;simpa[ptrTo]using W2.symm
 subst si ar9;have vW:w.grownBy (w.alloc (.mapIter (some q) m #[] m)) none:=World.grownBy_alloc _ _ _;have k8:pM P (w.alloc (.mapIter (some q) m #[] m)) q w.heap.size m es []:=.of u K be be ar6 ar8;have qj:IY P fn.ntmps l q w.heap.size m es J a2 (w.alloc (.mapIter (some q) m #[] m)) [] [] :=
  ⟨u.size,u.defers,ar3,W0,k8,.nil,be,be,tB [] w _ none aK vW (λr e=>mo)⟩
 refine wpIn_block (wpIn_loop (λa w'=>∃seen xs,IY P fn.ntmps l q w.heap.size m es J a w' seen xs) (λ_ w'=>es.length-Oe w' w.heap.size) ⟨[],[],qj⟩ ?_);rintro a3 fu ⟨seen,xs,an⟩;refine arn (B:=w.heap.size) C aI K hk mO (Nat.le_refl _) mT o0 I0 O R S ee c9 fP m1 m5 m3 fp tB ar fv an ?_ ?_ E6 _ ?_
 ·intro cN w' hd ar a8;exact⟨hd,.tuple #[],by simp[results,wb],⟨_,rfl⟩,.inl ⟨xs,⟨seen,ar,an.nw⟩,a8⟩⟩
 ·intro cN w' pre hd ah;exact⟨hd,.tuple #[],by simp[results,wb],⟨_,rfl⟩,.inr ⟨pre,trivial,ah⟩⟩
 ·intro cN w' k x H;refine⟨⟨_,_,H⟩,?_⟩;have h1:=List.Nodup.length_le_of_subset H.nodup (λk hk=>H.mem k hk);rw[H.E5.WQ,an.E5.WQ];simp at h1 ⊢;omega
end
end
open Go Go.RowKit
section
variable {P:Program}{gl:cQ}{N:Nat}{g g':bD}{s s':au}{a:Act}{w w':World}{F:Fence}{n:Nat}{Q:Exit->Act->World->Prop}{ops:Array Oper}{rest:List Oper}{o:Oper}
def wA(sz:Nat)(x:Value):Prop:=x.cells.size=sz/\(∀c∈x.cells.toList,c.oneCell'=true)/\(sz=1->x.cells=#[x])/\(sz≠1->x=.agg x.cells)
def flat(xs:List Value):List Value:=(xs.map (·.cells.toList)).flatten
theorem asa(xs:List Value)(x:Value):flat (xs++[x])=flat xs++x.cells.toList:=by simp[flat]
structure tC(e sz Ot:Nat)(w0:World)(xs:List Value)(W:World):Prop where
 below:Below w0.heap.size w0 W
 box:∃v,W.heap[w0.heap.size]?=some (.cells #[v] Ot (0,0))/\W.ownsRow (w0.heap.size+1) e sz v xs.length (flat xs)/\(xs=[]->v=.slice none 0 0)
 elems:∀x∈xs,wA sz x
theorem tC.own(e sz j:Nat)(w0:World):OwnFrom (w0.heap.size+1) (tC e sz j w0):=λxs W r b h c d=>by
 obtain⟨v,f,i,l⟩:=h.box;have ae:some w0.heap.size≠b:=λe=>by have:=(d _ e.symm).1;omega
 have m:w0.heap.size<W.heap.size:=(aKC.1 f).1;refine⟨h.below.grown c h.below.size (λk e=>by have:=(d k e).1;omega),⟨v,(c.block _ m ae).trans f,i.kept c ?_,l⟩,h.elems⟩;rcases i.2 with⟨rfl,_⟩|⟨k,cap,p,rfl,_,hk,_⟩
 ·exact .inl rfl
 ·refine .inr λe=>?_;obtain⟨_,o,aE,q⟩:=d k e.symm;rw[hk]at aE;simp at aE;subst aE;cases q
def Ou(T x:Nat):Op->Bool|.box t (.tmp y)=>t==T&&y==x|_=>false
def Ov:Op->Bool|.assign (.const (.slice none 0 0))=>true|_=>false
def I6(x:Nat):Op->Bool|.move (.tmp y)=>y==x|_=>false
def I7(x:Nat):Op->Bool|.assign (.tmp y)=>y==x|_=>false
def z7(T x:Nat):Op->Bool|.load t (.tmp y)=>t==T&&y==x|_=>false
def I8(T x v:Nat):Op->Bool|.store t (.tmp y) (.tmp u)=>t==T&&y==x&&u==v|_=>false
def Ow(T:Nat):Op->Bool|.alloc t=>t==T|_=>false
def Ox(T x:Nat):Op->Bool|.buildSlice t n ps=>t==T&&n==1&&(match ps.toList with|[(k,.tmp y)]=>k==0&&y==x|_=>false)|_=>false
def isApp(T x y:Nat)(op:Op):Bool:=match th op with|some (.append,[.tmp u,.tmp v],[t,jY])=>t==T&&jY==T&&u==x&&v==y|_=>false
theorem tD{t:Nat}{v:Value}(h:a.tmps[t]?=some v):a.eval (.tmp t)=v:=by simp[Act.eval,aKD,h]
section
variable {T x y u:Nat}{v:Value}
theorem asb(h:Ou T x o.op=true)(ah:a.tmps[x]?=some v):(execOp a.eval o).run P w=.ok (.value (ptrTo w.heap.size 0)) (w.alloc (.cells v.cells T)):=by
 unfold Ou at h;split at h
 ·rename_i t b aE;simp only[aKB,beq_iff_eq]at h;obtain⟨rfl,rfl⟩:=h;simp only[execOp,aE,tD ah,Sem.run_bind,HP,Result.andThen_ok,Sem.run_pure]
 ·cases h
theorem asc(h:Ov o.op=true):(execOp a.eval o).run P w=.ok (.value (.slice none 0 0)) w:=by
 unfold Ov at h;split at h
 ·rename_i aE;simp[execOp,aE,Act.eval]
 ·cases h
theorem W3(h:I6 x o.op=true)(ah:a.tmps[x]?=some v):(execOp a.eval o).run P w=.ok (.value v) w:=by
 unfold I6 at h;split at h
 ·rename_i b aE;simp only[beq_iff_eq]at h;subst h;simp[execOp,aE,tD ah]
 ·cases h
theorem W4(h:I7 x o.op=true)(ah:a.tmps[x]?=some v):(execOp a.eval o).run P w=.ok (.value v) w:=by
 unfold I7 at h;split at h
 ·rename_i b aE;simp only[beq_iff_eq]at h;subst h;simp[execOp,aE,tD ah]
 ·cases h
variable {b:Nat}
theorem W5{c:TypeDesc}(h:z7 T x o.op=true)(ah:a.tmps[x]?=some (ptrTo b 0))(d:P.underlying T=some c)(f:(∀i,c≠.struct i)/\∀n e,c≠.array n e)
  (j:w.cell? ⟨b,0,none⟩=some v):(execOp a.eval o).run P w=.ok (.value v) w:=by
 unfold z7 at h;split at h
 ·rename_i t k aE;simp only[aKB,beq_iff_eq]at h;obtain⟨rfl,rfl⟩:=h;simp only[execOp,aE,tD ah,Sem.run_bind,HK d f j,Result.andThen_ok,Sem.run_pure]
 ·cases h
variable {i:TypeInfo}
theorem asd{c:Array Field}{ws:List Value}(h:z7 T x o.op=true)(ah:a.tmps[x]?=some (ptrTo b 0))(al:P.info? T=some i)(d:P.underlying T=some (.struct c))(e:ws.length=i.size)
  (f:∀j v,ws[j]?=some v->w.cell? ⟨b,0+j,none⟩=some v):(execOp a.eval o).run P w=.ok (.value (.agg ws.toArray)) w:=by
 unfold z7 at h;split at h
 ·rename_i t k aE;simp only[aKB,beq_iff_eq]at h;obtain⟨rfl,rfl⟩:=h;simp only[execOp,aE,tD ah,Sem.run_bind,HJ al d e f (.inl ⟨c,rfl⟩),Result.andThen_ok,Sem.run_pure]
 ·cases h
theorem W6(h:I8 T x y o.op=true)(ah:a.tmps[x]?=some (ptrTo b 0))(c:a.tmps[y]?=some v)(al:P.info? T=some i)(d:v.cells.size=i.size)
  (e:(storeCells ⟨b,0,none⟩ v.cells.toList).run P w=.ok () w'):(execOp a.eval o).run P w=.ok .skip w':=by
 unfold I8 at h;split at h
 ·rename_i t f j aE;simp only[aKB,beq_iff_eq]at h;obtain⟨⟨rfl,rfl⟩,rfl⟩:=h;simp only[execOp,aE,tD ah,tD c,Sem.run_bind,Mu al d e,Result.andThen_ok,Sem.run_pure]
 ·cases h
theorem ase(h:Ow T o.op=true)(al:P.info? T=some i)(c:i.zero=some v):(execOp a.eval o).run P w=.ok (.value (ptrTo w.heap.size 0)) (w.alloc (.cells v.cells T)):=by
 unfold Ow at h;split at h
 ·rename_i t aE;simp only[beq_iff_eq]at h;subst h;simp only[execOp,aE,Sem.run_bind,HO al c,Result.andThen_ok,Sem.run_pure]
 ·cases h
theorem asf{e:Nat}{z:Value}(h:Ox T x o.op=true)(ah:a.tmps[x]?=some v)(d:P.underlying T=some (.slice e))(al:P.info? e=some i)(f:i.zero=some z)(ax:0<i.size)(j:v.cells.size=i.size)(l:i.size<=2 ^ 24) :
  (execOp a.eval o).run P w=.ok (.value (.slice (some ⟨w.heap.size,0,none⟩) 1 1)) (w.alloc (.cells v.cells e)):=by
 unfold Ox at h;split at h
 ·rename_i t n m aE;simp only[aKB,beq_iff_eq]at h;obtain⟨⟨rfl,rfl⟩,h⟩:=h;split at h
  ·rename_i k c p;simp only[aKB,beq_iff_eq]at h;obtain⟨rfl,rfl⟩:=h;have q:m=#[(0,.tmp c)]:=by apply Array.ext';simpa using p
   subst q;have:=HV (P:=P) (w:=w) (vs:=[v]) d al f ax (by simpa using j) (by simpa using l);simp only[List.length_cons,List.length_nil,Nat.zero_add,List.zipIdx_cons,List.zipIdx_nil,List.map_cons,List.map_nil,List.flatten_cons,List.flatten_nil,List.append_nil,Array.toArray_toList]at this;simp only[execOp,aE,Sem.run_bind];rw[show(#[((0:Nat),Operand.tmp c)].map λ(x:Nat×Operand)=>(x.1,a.eval x.2))=[(0,v)].toArray by simp[tD ah]];rw[this];rfl
  ·cases h
 ·cases h
end
structure Fg(P:Program)(S E sz:Nat)(i:TypeInfo)(z:Value):Prop where
 ds:P.underlying S=some (.slice E)
 asg:∃j,P.info? S=some j/\j.size=1
 iH:P.info? E=some i
 size:i.size=sz
 pos:0<sz
 le:sz<=2 ^ 24
 zero:i.zero=some z
 W7:z.cells.size=sz
 bytes:i.bytes<=128
 struct:sz≠1->∃dC,P.underlying E=some (.struct dC)
def ash(sz E B:Nat)(x:Value)(a:Act)(W:World):Prop :=
 (sz=1/\a.tmps[5]?=some x)\/(sz≠1/\∃z8,a.tmps[5]?=some (ptrTo z8 0)/\B<z8/\W.heap[z8]?=some (.cells x.cells E (0,0)))
def Cl(N sz E B:Nat)(x:Value)(a:Act)(W:World):Prop:=a.tmps.size=N/\a.defers=[]/\a.tmps[2]?=some (ptrTo B 0)/\ash sz E B x a W
theorem Cl.own(N sz E B C:Nat)(x:Value)(a:Act):OwnFrom C (λ(_:Unit)W=>Cl N sz E B x a W):=λ_ W u d h f i=>by
 obtain⟨j,k,l,m⟩:=h;refine⟨j,k,l,m.imp id λ⟨p,c,q,r,b⟩=>⟨p,c,q,r,(f.block c (aKC.1 b).1 λe=>?_).trans b⟩⟩;obtain⟨_,o,aE,t⟩:=i _ e.symm;rw[b]at aE;simp at aE;subst aE;cases t
def Oz(N E sz:Nat):List Oper->Bool
 |[wB]=>sz==1&&iW wB&&cZ N wB 5&&I7 7 wB.op|[wB,ca]=>sz != 1&&iW wB&&cZ N wB 5&&Ow E wB.op&&iW ca&&ca.dst==none&&I8 E 5 7 ca.op|_=>false
def OA(N S E sz:Nat):List Oper->Bool
 |[mS,dZ,en,lD,uS]=>iW mS&&cZ N mS 8&&z7 S 2 mS.op&&iW dZ&&cZ N dZ 9&&(if sz=1 then I6 5 dZ.op else z7 E 5 dZ.op)&&iW en&&cZ N en 10&&Ox S 9 en.op &&
   iW lD&&cZ N lD 11&&isApp S 8 10 lD.op&&iW uS&&uS.dst==none&&I8 S 2 11 uS.op
 |_=>false
theorem tE{N d:Nat}(h:cZ N o d=true):o.dst=some d/\d<N:=by simpa[cZ]using h
variable {v:Value}
theorem tF(b:∀f,F.fn f)(ar:iW o=true)(c:(execOp a.eval o).run P w=.ok (.value v) w')(K:wpListIn F n P ops Q rest (a.put o.dst v) w'):wpListIn F n P ops Q (o::rest) a w:=by
 unfold wpListIn;rw[if_pos (wq ar)];refine⟨λf _=>b f,?_⟩;rw[Oper.semAt_eq _ _ _ (wu ar),c];exact K
theorem W8(b:∀f,F.fn f)(ar:iW o=true)(hd:o.dst=none)(c:(execOp a.eval o).run P w=.ok .skip w')(K:wpListIn F n P ops Q rest a w'):wpListIn F n P ops Q (o::rest) a w:=by
 unfold wpListIn;rw[if_pos (wq ar)];refine⟨λf _=>b f,?_⟩;rw[Oper.semAt_eq _ _ _ (wu ar),c];show wpListIn F n P ops Q rest (a.put o.dst undef) w';rw[hd];exact K
theorem W9{b t:Nat}{cur:Array Value}{us:Array Value}(ae:w.heap[b]?=some (.cells cur t (0,0)))(ax:us.size=cur.size)(c:∀v∈us.toList,v.oneCell'=true) :
  (storeCells ⟨b,0,none⟩ us.toList).run P w=.ok () (w.setRow b us):=by
 have:=run_storeCells_at P b 0 t us.toList 0 cur w ae (by simpa using Nat.le_of_eq ax) c;simp only[Nat.add_zero,List.take_zero,List.nil_append]at this;rw[this];congr 2
 have d:cur.toList.drop (0+us.toList.length)=[]:=by rw[List.drop_eq_nil_iff];simp;omega
 rw[d];simp
variable {W:World}
theorem asi(b:Nat)(arr:Array Value):W.grownBy (W.setRow b arr) (some b) :=
 ⟨rfl,rfl,rfl,be,λk _ hk=>setRow_other W b k _ (λe=>hk (by rw[e]))⟩
theorem gx(a:Act)(d t:Nat)(v:Value)(hd:d<a.tmps.size):(a.put (some d) v).tmps[t]?=if t=d then some v else a.tmps[t]?:=td hd v t
variable {S E sz:Nat}{i:TypeInfo}{z:Value}{w0:World}{xs:List Value}{x:Value}{K:Act->World->Prop}
variable {id:Nat}
theorem asj(d:∀f,F.fn f)(ej:Fg P S E sz i z){m:Array Oper}(b:Oz N E sz m.toList=true)(ah:wA sz x)(aG:a.tmps.size=N)(hd:a.defers=[])(A:a.tmps[7]?=some x)
  (B:a.tmps[2]?=some (ptrTo w0.heap.size 0))(gq:tC E sz S w0 xs w)
  (C:∀D c,KeepsFrom (w0.heap.size+1) w c->KeepsWalks w c->tC E sz S w0 xs c->Cl N sz E w0.heap.size x D c->K D c):(Code.region id m false).wpIn F n P (Exit.then K (λ_ _ _=>False)) a w:=by
 refine wpIn_region_list ?_;generalize m.toList=l at b;unfold Oz at b;split at b
 ·rename_i H;simp only[aKB,beq_iff_eq]at b;obtain⟨⟨⟨ax,p⟩,q⟩,t⟩:=b;obtain⟨u,J⟩:=tE q;refine tF d p (W4 t A) (wpListIn_nil ?_);rw[u];refine C _ _ (KeepsFrom.refl _ _) (KeepsWalks.refl _) gq ⟨by simp[Act.put,aG],hd,by rw[gx _ _ _ _ am];simpa using B,.inl ⟨ax,lg⟩⟩
 ·rename_i H X;simp only[aKB,beq_iff_eq,bne_iff_ne]at b;obtain⟨⟨⟨⟨⟨⟨ax,p⟩,q⟩,t⟩,L⟩,O⟩,m1⟩:=b;obtain⟨u,J⟩:=tE q;refine tF d p (ase t ej.iH ej.zero) ?_;rw[u];have G:(w.alloc (.cells z.cells E)).heap[w.heap.size]?=some (.cells z.cells E (0,0)):=heap_alloc_new w _;have R:=W9 (P:=P) (us:=x.cells) G (by rw[ah.1,ej.W7]) ah.2.1;refine W8 d L O (W6 m1 lg (by rw[gx _ _ _ _ am];simpa using A) ej.iH (by rw[ah.1,ej.size]) R) (wpListIn_nil ?_);have y:w.grownBy ((w.alloc (.cells z.cells E)).setRow w.heap.size x.cells) none :=
   ⟨rfl,rfl,rfl,be,λk hk _=>by rw[setRow_other _ _ _ _ am,heap_alloc_old w _ (h:=hk)]⟩
  have ae:=gq.below.size;obtain⟨v,T,_⟩:=gq.box;have V:w0.heap.size<w.heap.size:=(aKC.1 T).1;refine C _ _ (KeepsFrom.of_grownBy y (λj e=>mo)) (KeepsWalks.of_grownBy y (λj o e=>mo)) (tC.own _ _ _ _ _ _ _ none gq y (λr e=>mo))
   ⟨by simp[Act.put,aG],hd,by rw[gx _ _ _ _ am];simpa using B,.inr ⟨ax,w.heap.size,lg,V,setRow_heap _ _ _ _ _ _ G⟩⟩
 ·cases b
variable {base e size k:Nat}{vs:List Value}
theorem asl(h:W.ownsRow 0 e size v k vs)(ae:∀b,v.ownBlock=some b->base<=b):W.ownsRow base e size v k vs:=by
 refine⟨h.1,?_⟩;rcases h.2 with d|⟨b,cap,c,rfl,_,r⟩
 ·exact .inl d
 ·exact .inr ⟨b,cap,c,rfl,ae b rfl,r⟩
theorem asm(h:W.ownsRow base e size v k vs):W.ownsRow 0 e size v k vs:=by
 refine⟨h.1,?_⟩;rcases h.2 with c|⟨b,cap,d,rfl,_,r⟩
 ·exact .inl c
 ·grind
theorem asn(G:∀f,F.fn f)(ej:Fg P S E sz i z){cb:Nat}{R:Array Oper}(A:OA N S E sz R.toList=true)(ah:wA sz x)(cE:Cl N sz E w0.heap.size x a w)(gq:tC E sz S w0 xs w)(hlen:xs.length<M)
  {T:Exit->Act->World->Prop}(x9:∀cN L,KeepsFrom (w0.heap.size+1) w L->KeepsWalks w L->tC E sz S w0 (xs++[x]) L->T .normal cN L):(Code.block cb (.region id R false)).wpIn F n P T a w:=by
 obtain⟨aG,hd,ab,H⟩:=cE;obtain⟨v,O,fM,ob⟩:=gq.box;obtain⟨j,l3,yj⟩:=ej.asg;refine wpIn_block (wpIn_region_list ?_);generalize R.toList=l at A;unfold OA at A;split at A
 case h_2=>cases A
 rename_i mS dZ en lD uS;simp only[aKB,beq_iff_eq]at A;obtain⟨⟨⟨⟨⟨⟨⟨⟨⟨⟨⟨⟨⟨⟨qu,d0⟩,m0⟩,aP⟩,d1⟩,m1⟩,aV⟩,d2⟩,m2⟩,bP⟩,d3⟩,J⟩,c5⟩,d4⟩,m4⟩:=A;obtain⟨e0,f0⟩:=tE d0;obtain⟨aH,f1⟩:=tE d1;obtain⟨aR,f2⟩:=tE d2;obtain⟨fe,f3⟩:=tE d3;have hM:w.cell? ⟨w0.heap.size,0,none⟩=some v:=by simp[World.cell?,O]
 have V:w0.heap.size<w.heap.size:=(aKC.1 O).1;refine tF G qu (W5 m0 ab ej.ds ⟨be,be⟩ hM) ?_;rw[e0]
 -- the element
 have pD:(execOp (a.put (some 8) v).eval dZ).run P w=.ok (.value x) w:=by
  rcases H with⟨ax,H⟩|⟨ax,z8,H,dT,fF⟩
  ·rw[if_pos ax]at m1;exact W3 (v:=x) m1 (by rw[gx _ _ _ _ am];simpa using H)
  ·rw[if_neg ax]at m1;obtain⟨dC,oi⟩:=ej.struct ax;have:=asd (P:=P) (a:=a.put (some 8) v) (w:=w) (ws:=x.cells.toList) m1 (by rw[gx _ _ _ _ am];simpa using H) ej.iH oi (by rw[Array.length_toList,ah.1,ej.size]) (λk u hk=>by
    simp only[World.cell?,fF,Nat.zero_add];simpa using hk)
   rw[Array.toArray_toList,<-ah.2.2.2 ax]at this;exact this
 refine tF G aP pD ?_;rw[aH];have aN5:((a.put (some 8) v).put (some 9) x).tmps.size=N:=by simp[Act.put,aG]
 refine tF G aV (asf (v:=x) m2 (by rw[gx _ _ _ _ jp];simp) ej.ds ej.iH ej.zero (by rw[ej.size];exact ej.pos) (by rw[ah.1,ej.size]) (by rw[ej.size];exact ej.le)) ?_;rw[aR];generalize rz:w.alloc (.cells x.cells E)=p;have r:w.grownBy p none:=by rw[<-rz];exact World.grownBy_alloc _ _ _
 have z1:p.heap[w.heap.size]?=some (.cells x.cells E (0,0)):=by rw[<-rz];exact heap_alloc_new w _
 have X:p.ownsRow (w0.heap.size+1) E sz v xs.length (flat xs):=fM.kept r (by
  cases h:v.ownBlock with
  |none=>exact .inl rfl|some b=>exact .inr be)
 have jC:p.heap[w0.heap.size]?=some (.cells #[v] S (0,0)):=(r.block _ V be).trans O
 -- the append
 obtain⟨d,B,cF,Y,er,eo,Z⟩:=HY (P:=P) (w:=p) (t:=S) (ty:=lD.type) (ad:=⟨w.heap.size,0,none⟩) (m:=1) (c:=1) (news:=x.cells.toList) ej.ds ej.iH ej.zero (by rw[ej.W7,ej.size]) (by rw[ej.size];exact asm X) (by rw[Array.length_toList,ah.1,ej.size,Nat.one_mul])
  (λk u hk=>by rw[n0];simp only[World.cell?,z1,Nat.zero_add];simpa using hk) ah.2.1 am am ej.bytes
 rw[ej.size]at Y;have N7:(execOp (((a.put (some 8) v).put (some 9) x).put (some 10) (.slice (some ⟨w.heap.size,0,none⟩) 1 1)).eval lD).run P p=.ok (.value d) B:=by
  unfold isApp at J;split at J
  ·rename_i ca dK t jY ae;simp only[aKB,beq_iff_eq]at J;obtain⟨⟨⟨gB,z2⟩,z3⟩,z4⟩:=J;rw[gB,z2,z3,z4]at ae;obtain⟨xK,cT⟩:=vI (o:=lD) ae rfl (((a.put (some 8) v).put (some 9) x).put (some 10) (.slice (some ⟨w.heap.size,0,none⟩) 1 1)).eval;rw[cT];have aj:(((a.put (some 8) v).put (some 9) x).put (some 10) (.slice (some ⟨w.heap.size,0,none⟩) 1 1)).eval (.tmp 8)=v:=tD (by
    rw[gx _ _ _ _ am];simp only[aKE,if_false];rw[gx _ _ _ _ jp];simp only[aKE,if_false];rw[gx _ _ _ _ am];simp)
   have av:(((a.put (some 8) v).put (some 9) x).put (some 10) (.slice (some ⟨w.heap.size,0,none⟩) 1 1)).eval (.tmp 10)=.slice (some ⟨w.heap.size,0,none⟩) 1 1:=tD lg;simp only[builtin,List.map_cons,List.map_nil,aj,av,Sem.run_bind,cF,Result.andThen_ok,Sem.run_pure]
  ·cases J
 refine tF G bP N7 ?_;rw[fe];have Cb:∀b,v.ownBlock=some b->w0.heap.size+1<=b/\b<p.heap.size:=X.lt;have Xa:∀b,d.ownBlock=some b->w0.heap.size+1<=b:=λb ae=>by
  rcases eo with⟨q,_⟩|⟨q,_⟩
  ·rw[q]at ae;exact(Cb b ae).1
  ·grind
 have OC:∀k,k<p.heap.size->v.ownBlock≠some k->B.heap[k]?=p.heap[k]?:=λk hk cG=>by
  rcases eo with⟨_,_,q⟩|⟨_,_,q⟩
  ·exact q k (λe=>cG e.symm)
  ·exact q k hk
 have Xb:w0.heap.size<p.heap.size:=(aKC.1 jC).1;have asp:v.ownBlock≠some w0.heap.size:=λe=>by have:=(Cb _ e).1;omega
 have OD:B.heap[w0.heap.size]?=some (.cells #[v] S (0,0)):=(OC _ Xb asp).trans jC;have OE:d.cells=#[d]/\d.oneCell'=true:=by
  rcases Y.2 with⟨rfl,_⟩|⟨b,cap,cur,rfl,_⟩<;>exact⟨rfl,rfl⟩
 have iQ:=W9 (P:=P) (us:=#[d]) OD rfl (by simpa using OE.2);refine W8 G c5 d4 (W6 (v:=d) m4 ?_ ?_ l3 (by rw[OE.1,yj];rfl) (by rw[OE.1];exact iQ)) (wpListIn_nil ?_)
 ·rw[gx _ _ _ _ jp];simp only[aKE,if_false];rw[gx _ _ _ _ jp];simp only[aKE,if_false];rw[gx _ _ _ _ jp];simp only[aKE,if_false];rw[gx _ _ _ _ am];simpa using ab
 ·rw[gx _ _ _ _ jp];simp
 have HQ:∀(k:Nat)(bM:Obj),w.heap[k]?=some bM->bM.isCells=false->(B.setRow w0.heap.size #[d]).heap[k]?=some bM:=λk bM hk C=>by
  have bJ:=(aKC.1 hk).1;have Xc:p.heap[k]?=some bM:=(r.block k bJ be).trans hk;have asq:k≠w0.heap.size:=λe=>by subst e;rw[O]at hk;simp at hk;subst hk;cases C
  have OF:v.ownBlock≠some k:=λe=>by
   rcases X.2 with⟨rfl,_⟩|⟨b,cap,cur,rfl,_,q,_⟩
   ·simp[Value.ownBlock]at e
   ·simp[Value.ownBlock]at e;subst e;rw[Xc]at q;simp at q;subst q;cases C
  rw[setRow_other _ _ _ _ asq,OC k (Nat.lt_of_lt_of_le bJ r.size) OF];exact Xc
 have fY:w.heap.size<=(B.setRow w0.heap.size #[d]).heap.size:=by have:=r.size;simp;omega
 have asr:(B.setRow w0.heap.size #[d]).ownsRow (w0.heap.size+1) E sz d (xs.length+1) (flat xs++x.cells.toList):=(asl Y Xa).kept (asi _ _) (by
  cases h:d.ownBlock with
  |none=>exact .inl rfl|some b=>exact .inr (λe=>by have:=Xa b h;simp at e;omega))
 show T .normal _ _;refine x9 _ _ ⟨fY,λk bM _ hk C=>HQ k bM hk C⟩ ⟨fY,λk bM hk C=>HQ k bM hk (Obj.not_cells_of_walk C)⟩ ⟨?_,⟨d,setRow_heap _ _ _ _ _ _ OD,?_,be⟩,?_⟩
 ·refine⟨?_,?_,?_,?_,λk hk=>?_⟩
  ·exact(congrArg Prod.fst Z.1).trans (r.os.trans gq.below.os)
  ·exact(congrArg Prod.snd Z.1).trans (r.tape.trans gq.below.tape)
  ·exact Z.2.trans (r.output.trans gq.below.output)
  ·exact Nat.le_trans gq.below.size fY
  ·rw[setRow_other _ _ _ _ am,OC k am (λe=>by have:=(Cb _ e).1;omega),r.block k am be];exact gq.below.block k hk
 ·rw[List.length_append,List.length_singleton,asa];exact asr
 ·intro y D;rcases List.mem_append.1 D with D|D
  ·exact gq.elems y D
  ·simp at D;subst D;exact ah
end
section
variable {P:Program}{gl:cQ}{N:Nat}{g g':bD}{s s':au}{a:Act}{w w':World}{F:Fence}{n:Nat}{Q:Exit->Act->World->Prop}{ops:Array Oper}{rest:List Oper}{o:Oper}
variable {S E sz:Nat}{i:TypeInfo}{z:Value}{w0:World}{xs:List Value}{x:Value}{K:Act->World->Prop}
def I9(N S E sz:Nat):Code->Bool
 |.seq (.region _ ky false) (.seq (.seq (.region _ bT false) (.block _ (.rangeFunc (.tmp t6) ps (.region _ b8 false) (.block _ (.region _ c8 false))))) (.seq (.region _ dU false) .ret)) =>
  t6==6&&ps.toList==[7]&&decide (12<N)&&(match ky.toList with|[aM,x1]=>iW aM&&cZ N aM 2&&Ou S 0 aM.op&&iW x1&&cZ N x1 4&&Ov x1.op|_=>false) &&
   (match bT.toList with|[x2]=>iW x2&&cZ N x2 6&&I6 1 x2.op|_=>false)&&Oz N E sz b8.toList&&OA N S E sz c8.toList &&
   (match dU.toList with|[j3,c1]=>iW j3&&cZ N j3 12&&z7 S 2 j3.op&&iW c1&&cZ N c1 4&&I7 12 c1.op|_=>false)
 |_=>false
variable {m id:Nat}{es:List (AV×AV)}
theorem np.world{b:Nat}(h:np P g w id b m es)(d:∀e∈es,fo e.2=true)(f:w'.heap[b]?=w.heap[b]?):np P g w' id b m es:=by
 obtain⟨arr,j,k,⟨dd,c,l,p⟩,q,r,t,u⟩:=h;refine⟨arr,f.trans j,k,⟨dd,c,l,λi e m he hm=>?_⟩,q,r,t,u⟩;obtain⟨v,y,A,B⟩:=p i e m he hm;exact⟨v,y,A,(Od (d e (c.mem_iff.1 (aKK he)))).gG⟩
abbrev Fh(sz:Nat):={ x:Value // wA sz x }
variable {iG:Nat}{fn:Func}{c:Code}{pre:List cW}{jF:cW}{bu kV:Nat}
theorem ass(C:P.funcs[iG]?=some fn)(ae:fn.body=some c)(D:fn.results=#[])(G:Ci P fn.ntmps pre jF c=true)
  (A:∀e∈es,fo e.2=true)(hk:∀e∈es,su pre jF e.1)(ar:∀e∈es,∀v,bn g0 e.1 v->wA sz v)(hm:np P g w id bu m es)(H:bu<w.heap.size)(L:w.cell? ⟨kV,0,none⟩=some (.map (some bu)))(O:kV<w.heap.size) :
  SeqStopsK Fence.wide n P iG #[ptrTo kV 0] (λx:Fh sz=>#[x.1]) KeepsWalks (λxs=>∃ks,ks.Perm (es.map (·.1))/\cS g0 ks (xs.map (·.1))) (λ_=>True) es.length w:=by
 intro l J Jx W B R T V X;have Y:=hm.world (w':=W) A (B.block bu H);have k:W.cell? ⟨kV,0,none⟩=some (.map (some bu)):=(B.cell O).trans L;refine(arY (J:=λpre W=>∃b:List (Fh sz),b.map (·.1)=pre/\J b W) (Jx:=λpre W=>∃b:List (Fh sz),b.map (·.1)=pre/\Jx b W) (p:=wA sz) (n:=n) (l:=l) (F:=Fence.wide) (λ_=>trivial) rfl (λh=>d6) C ae D G A hk Y k ?_ ?_ ar ?_ ⟨[],rfl,X⟩).mono ?_
 ·rintro pre d q t ⟨b,rfl,f⟩ u Z;exact⟨b,rfl,R b d q t f u Z⟩
 ·rintro pre d q ⟨b,rfl,f⟩ u;exact⟨b,rfl,T b d q none f u (λr e=>mo)⟩
 ·rintro pre x d ⟨b,rfl,f⟩ ah j;obtain⟨ry,Ol,as,eS,a7,de⟩:=V b ⟨x,ah⟩ d f (by simpa using j);refine⟨ry,Ol,as,eS,a7,de.mono ?_⟩;rintro e dY (⟨rfl,y,av⟩|⟨rfl,y⟩)
  ·exact .inl ⟨rfl,⟨_,be,y⟩,av⟩
  ·exact .inr ⟨rfl,⟨_,be,y⟩⟩
 ·grind
set_option maxHeartbeats 1000000 in
theorem asu(ej:Fg P S E sz i z){fz:Nat}{H:Func}{iP:Code}(zP:P.funcs[fz]?=some fn)(pI:fn.body=some c)(OH:fn.results=#[.tmp 4])(p:I9 fn.ntmps S E sz c=true)
  (OI:P.funcs[iG]?=some H)(xZ:H.body=some iP)(OJ:H.results=#[])(OK:Ci P H.ntmps pre jF iP=true)(tx:kR P iG=true)
  (aq:∀e∈es,fo e.2=true)(hk:∀e∈es,su pre jF e.1)(ar:∀e∈es,∀v,bn g0 e.1 v->wA sz v)(hm:np P g w id bu m es)(si:bu<w.heap.size)(Ff:w.cell? ⟨kV,0,none⟩=some (.map (some bu)))(OG:kV<w.heap.size)(bw:es.length<=M) :
  Calls P fz #[.slice none 0 0,.func (.func iG) #[] #[ptrTo kV 0]] w λe q=>∃v xs ks,e=.returned v/\ks.Perm (es.map (·.1))/\cS g0 ks xs/\(∀x∈xs,wA sz x)/\Below w.heap.size w q/\q.ownsRow (w.heap.size+1) E sz v xs.length (flat xs)/\(xs=[]->v=.slice none 0 0):=by
 refine(callsIn_wide (n:=5)).1 ?_;have b:∀f,Fence.wide.fn f:=λ_=>trivial;unfold I9 at p;split at p
 case h_2=>cases p
 rename_i i0 ky i1 bT kz t6 ps i2 b8 aN6 i3 c8 i4 dU;simp only[aKB,beq_iff_eq,decide_eq_true_eq]at p;obtain⟨⟨⟨⟨⟨⟨⟨rfl,oS⟩,mO⟩,t⟩,u⟩,c2⟩,gv⟩,A⟩:=p;refine callsIn_of_wp_marks zP pI (b _) ?_ rfl;generalize J:(#[Value.slice none 0 0,.func (.func iG) #[] #[ptrTo kV 0]]++aKF (fn.ntmps-#[Value.slice none 0 0,.func (.func iG) #[] #[ptrTo kV 0]].size) undef)=T;have fY:T.size=fn.ntmps:=by rw[<-J];simp;omega
 have Oq:T[0]?=some (.slice none 0 0):=by rw[<-J];simp[aKG]
 have EW:T[1]?=some (.func (.func iG) #[] #[ptrTo kV 0]):=by rw[<-J];simp[aKG]
 clear J;generalize B:({ tmps:=T,defers:=[] }:Act)=a0;have O:a0.tmps.size=fn.ntmps:=by rw[<-B];exact fY
 have Cm:a0.defers=[]:=by rw[<-B]
 have zt:a0.tmps[0]?=some (.slice none 0 0):=by rw[<-B];exact Oq
 have R:a0.tmps[1]?=some (.func (.func iG) #[] #[ptrTo kV 0]):=by rw[<-B];exact EW
 clear B Oq EW;refine wpIn_seq (wpIn_region_list ?_);generalize ky.toList=kA at t;split at t
 case h_2=>cases t
 rename_i aM x1;simp only[aKB]at t;obtain⟨⟨⟨⟨⟨qu,d0⟩,m0⟩,aP⟩,d1⟩,m1⟩:=t;obtain⟨e0,f0⟩:=tE d0;obtain⟨aH,f1⟩:=tE d1;refine tF b qu (asb m0 zt) ?_;rw[e0];refine tF b aP (asc m1) (wpListIn_nil ?_);rw[aH];generalize L:w.alloc (.cells (Value.slice none 0 0).cells S)=d;have Fj:w.grownBy d none:=by rw[<-L];exact World.grownBy_alloc _ _ _
 have Xd:d.heap.size=w.heap.size+1:=by rw[<-L];exact n4 _ _
 have zs:d.heap[w.heap.size]?=some (.cells #[.slice none 0 0] S (0,0)):=by rw[<-L];exact heap_alloc_new w _
 clear L;generalize C:(a0.put (some 2) (ptrTo w.heap.size 0)).put (some 4) (.slice none 0 0)=j;have lf:j.tmps.size=fn.ntmps:=by rw[<-C];simp[Act.put,O]
 have jz:j.defers=[]:=by rw[<-C];exact Cm
 have vD:j.tmps[1]?=some (.func (.func iG) #[] #[ptrTo kV 0]):=by rw[<-C,gx _ _ _ _ (by simp[Act.put,O];omega)];simp only[aKE,if_false];rw[gx _ _ _ _ am];simpa using R
 have zQ:j.tmps[2]?=some (ptrTo w.heap.size 0):=by rw[<-C,gx _ _ _ _ (by simp[Act.put,O];omega)];simp only[aKE,if_false];rw[gx _ _ _ _ am];simp
 clear C;show Code.wpIn _ _ _ _ _ j d;refine wpIn_seq (wpIn_seq (wpIn_region_list ?_));generalize bT.toList=cV at u;split at u
 case h_2=>cases u
 rename_i x2;simp only[aKB]at u;obtain⟨⟨aV,d2⟩,m2⟩:=u;obtain⟨aR,f2⟩:=tE d2;refine tF b aV (W3 m2 vD) (wpListIn_nil ?_);rw[aR];generalize G:j.put (some 6) (.func (.func iG) #[] #[ptrTo kV 0])=a2;have uT:a2.tmps.size=fn.ntmps:=by rw[<-G];simp[Act.put,lf]
 have vL:a2.defers=[]:=by rw[<-G];exact jz
 have V:a2.tmps[2]?=some (ptrTo w.heap.size 0):=by rw[<-G,gx _ _ _ _ am];simpa using zQ
 have X:a2.tmps[6]?=some (.func (.func iG) #[] #[ptrTo kV 0]):=by rw[<-G,gx _ _ _ _ am];simp
 clear G;show Code.wpIn _ _ _ _ _ a2 d;have Oy:ps=#[7]:=by apply Array.ext';simpa using oS
 subst Oy;have zw:=ass (w:=w) (n:=4) OI xZ OJ OK aq hk ar hm si Ff OG;have Xe:Below w.heap.size w d:=(Below.refl _ w).grown Fj (Nat.le_refl _) (λk e=>mo);have Y:tC E sz S w [] d:=⟨Xe,⟨_,zs,World.ownsRow_nil _ _ _ _,λ_=>rfl⟩,be⟩;refine wpIn_block (wpIn_rangeFunc_ownH (α:=Fh sz) (w0:=w) rfl am (tD X) (b iG) (λargs w=>ED tx) zw (λh k=>h.trans k) (λW l o dA _ h _ hw=>KeepsWalks.putObj _ h hw) Xe (λ_=>rfl)
  (λ(xs:List (Fh sz))W=>tC E sz S w (xs.map Subtype.val) W) (λ_ _ _=>False) (λs W q Z h aF aw=>tC.own E sz S w (s.map Subtype.val) W q Z h aF (λr e=>by have:=aw r e;rw[Xd]at this;exact this)) (λ_ _ _ _ _ h _ _=>h) Y
  (λx cN W=>Cl fn.ntmps sz E w.heap.size x.1 cN W) (λx cN=>Cl.own _ _ _ _ _ _ _) ?_ ?_ ?_ (λ_ _ _ _ _ _ h _=>h.elim))
 ·intro l pre x W K gq eC;have Fk:((#[7]:Array Nat).zip #[x.1])=#[(7,x.1)]:=by apply Array.ext';simp
  rw[Fk];refine asj (N:=fn.ntmps) (w0:=w) (xs:=pre.map Subtype.val) (x:=x.1) (λ_=>trivial) ej c2 x.2 ?_ ?_ ?_ ?_ gq ?_
  ·simp[uT]
  ·rfl
  ·grind
  ·grind
  ·grind
 ·intro l pre x cN W _ _ gq cE hlen;refine asn (w0:=w) (xs:=pre.map Subtype.val) (x:=x.1) (λ_=>trivial) ej gv x.2 cE gq d9 ?_;intro aN7 q aj av aQ;exact⟨by rw[Xd];exact aj,av,by simpa using aQ⟩
 ·intro D xs W NS ds gq eC;show Code.wpIn _ _ _ _ _ _ W;obtain⟨v,wc,jC,OD⟩:=gq.box;refine wpIn_seq (wpIn_region_list ?_);generalize dU.toList=lA at A;split at A
  case h_2=>cases A
  rename_i iE da;simp only[aKB]at A;obtain⟨⟨⟨⟨⟨bP,d3⟩,m3⟩,c5⟩,d4⟩,m4⟩:=A;obtain⟨fe,f3⟩:=tE d3;obtain⟨nz,f4⟩:=tE d4;have hM:W.cell? ⟨w.heap.size,0,none⟩=some v:=by simp[World.cell?,wc]
  refine tF b bP (W5 m3 V ej.ds ⟨be,be⟩ hM) ?_;rw[fe];refine tF b c5 (W4 (v:=v) m4 (by rw[gx _ _ _ _ ap];simp)) (wpListIn_nil ?_);rw[nz];refine wpIn_ret ?_;obtain⟨ks,asz,asA⟩:=ds;have Xf:W.grownBy (W.putObj D (.deferred none)) (some D):=Go.grownBy_putObj' W D _;have Fl:=tC.own E sz S w _ W _ _ gq Xf (λr e=>by cases e;exact⟨am,_,eC,rfl⟩);obtain⟨v2,sl,rz,asB⟩:=Fl.box;have asC:v2=v:=by
   have bJ:w.heap.size<W.heap.size:=(aKC.1 wc).1;have:=Xf.block w.heap.size bJ d9;rw[sl,wc]at this;simp at this;exact this
  subst asC;refine⟨be,.inl ⟨_,_,rfl,run_takeDeferred eC,?_⟩⟩;show LeavesInM _ _ _ _ _ _ a2.defers _ _;rw[vL];refine⟨_,results_tmp OH _ _ _,v2,xs.map (·.1),ks,?_,asz,asA,λy a7=>?_,Fl.below,rz,asB⟩
  ·simp[Act.put,aKD,uT];omega
  ·grind
end
def ba:Option au->Option (List au)
 |some s=>some [s]|none=>none
inductive qv where
 |leaf (f:Nat) (hh:az) (iw:List bo) (k:Nat)|node (m:Nat) (l r:qv)
theorem bB.asD{P:Program}{gl:cQ}{f:Nat}{xs:List AV}{r:AV}{H:List ay}(R:kR P f=true)(aG:xs.all AV.arg=true)(hd:aA P gl f xs r):bB P gl f xs H λr' H'=>r'=r/\H'=H:=by
 refine⟨R,λg w vs h S _=>(hd g.γ w vs h.fI h.hf (NF S aG)).mono λe w' T=>?_⟩;obtain⟨v,m,rfl,u,x,n,p,y,A,B⟩:=T;have C:∀b,v.ownBlock=some b->(∃e sz xs,r=.list (some e) sz xs)->b<w'.heap.size/\w.heap.size<=b:=by
  intro b ae ⟨e,sz,xs,k⟩;obtain⟨i,z,vs,D,E,F,G,J,K,L,s,t⟩:=B e sz xs k;have q:=(t b ae).1;refine⟨(s.lt b ae).2,?_⟩;simp only[we]at q;by_cases a:b<w.heap.size
  ·simp[a]at q
  ·omega
 by_cases k:∃e sz xs,r=.list (some e) sz xs
 ·let d:bD:=⟨m,λb=>if b<w.heap.size then g.bO b else if v.ownBlock=some b then .var 0 else .none,g.cg⟩
  have l:GhLe g d:=⟨u,λ_ _ h=>h⟩;have V:∀b,g.bO b≠.none->d.bO b=g.bO b/\w'.heap[b]?=w.heap[b]?/\∀o,d.γ b o=g.γ b o:=λb ae=>by
   have a:=h.own b ae;exact⟨by simp[d,a],(n b a).1,(n b a).2⟩
  have c:Rel P gl 0 d (l9 H) tu w':=h.step .none (lu.none _) l (λb ae=>V b ae.1) y (λb ae=>by
   by_cases a:b<w.heap.size
   ·omega
   ·simp[d,a]at ae;exact(C b ae k).1) h.ga
  refine⟨v,r,H,d,rfl,⟨rfl,rfl⟩,⟨l,λb ae=>?_,x,p.1,p.2⟩,c,A.mono (⟨λ_ _ _ h=>h,λ_ _ h=>d6⟩:GhLe (we m w.heap.size) d),?_⟩
  ·grind
  ·intro e sz xs ah;obtain⟨i,z,vs,D,E,F,G,J,K,L,s,t⟩:=B e sz xs ah;refine⟨i,z,vs,D,E,F,G,J,K,L,s,λb ae=>?_⟩;have q:=C b ae k;exact⟨by simp[d,show ¬b<w.heap.size by omega,ae],(t b ae).2⟩
 ·let j:bD:=⟨m,λb=>if b<w.heap.size then g.bO b else .none,g.cg⟩
  have O:GhLe g j:=⟨u,λ_ _ h=>h⟩;have Q:∀b,g.bO b≠.none->j.bO b=g.bO b/\w'.heap[b]?=w.heap[b]?/\∀o,j.γ b o=g.γ b o:=λb ae=>by
   have a:=h.own b ae;exact⟨by simp[j,a],(n b a).1,(n b a).2⟩
  have c:Rel P gl 0 j (l9 H) tu w':=h.step .none (lu.none _) O (λb ae=>Q b ae.1) y (λb ae=>by
   by_cases a:b<w.heap.size
   ·omega
   ·simp[j,a]at ae) h.ga
  refine⟨v,r,H,j,rfl,⟨rfl,rfl⟩,⟨O,λb ae=>?_,x,p.1,p.2⟩,c,A.mono (⟨λ_ _ _ h=>h,λ_ _ h=>d6⟩:GhLe (we m w.heap.size) j),.mE λe sz xs ah=>k ⟨e,sz,xs,ah⟩⟩;obtain⟨W,X,Y⟩:=Q b (by rw[ae];simp);exact⟨W.trans ae,X,Y⟩
structure aN8 where
 f:Nat
 xs:List AV
 H:List ay
 outs:List Ob
section
variable {P:Program}{gl:cQ}{N:Nat}{g g':bD}{s s':au}{a:Act}{w w':World}{S E sz:Nat}{i:TypeInfo}{z:Value}
def Cn:AV->Bool|.str _|.int _ _|.bool _=>true|_=>false
variable {v:Value}
theorem asE{c:AV}(b:Cn c=true)(h:bn g c v)(g':bD):bn g' c v:=by
 cases c<;>simp[Cn]at b
 ·have:=h.oO;subst this;exact .pure _ _ (.bool _)
 ·have:=h.kp;subst this;exact .pure _ _ (.int _ _)
 ·obtain⟨rfl,d⟩:=h.mG;exact .pure _ _ (.str _ d)
theorem Xg:∀{cs:List AV}{ws:List Value},cs.all Cn=true->cS g cs ws->cS g' cs ws
 |[],_,_,h=>by cases h;exact .nil|c::cs,_,b,.cons _ _ v ws h1 d=>by
  rw[List.all_cons,aKB]at b;exact .cons _ _ _ _ (asE b.1 h1 g') (Xg b.2 d)
def qw(sz:Nat):AV->Bool
 |.str _=>sz==1|.agg cs=>sz==3&&cs.length==3&&cs.all Cn|_=>false
variable {k:AV}
theorem asF{sz:Nat}(hk:qw sz k=true)(h:bn g k v):wA sz v:=by
 cases k<;>simp only[qw,aKJ,aKB,beq_iff_eq]at hk
 ·subst hk;obtain⟨rfl,b⟩:=h.mG;exact⟨rfl,by simp[Value.cells,Value.oneCell'],λ_=>rfl,λh=>absurd rfl h⟩
 ·obtain⟨⟨rfl,e⟩,f⟩:=hk;obtain⟨ws,rfl,c,d⟩:=h.oP;have b:=c.get.1;refine⟨by simp[Value.cells];omega,by simpa[Value.cells]using d,(λh=>am),λ_=>by simp[Value.cells]⟩
theorem asG{sz:Nat}(hk:qw sz k=true)(h:bn g k v):cS g' k.cells v.cells.toList/\∀c∈k.cells,cY c:=by
 cases k<;>simp only[qw,aKJ,aKB,beq_iff_eq]at hk
 ·obtain⟨rfl,d⟩:=h.mG;exact⟨.cons _ _ _ _ (.pure _ _ (.str _ d)) .nil,by simp[AV.cells];exact zp _⟩
 ·obtain⟨⟨rfl,j⟩,b⟩:=hk;obtain⟨ws,rfl,e,l⟩:=h.oP;refine⟨by simpa[Value.cells,AV.cells]using Xg b e,λc f=>?_⟩;have:=aKH.1 b c f;cases c<;>simp[Cn]at this<;>exact λ_ _ _ h=>by simp at h
theorem Xh{sz:Nat}:∀{ks:List AV}{vs:List Value},(∀k∈ks,qw sz k=true)->cS g ks vs->cS g' (ks.map AV.cells).flatten (flat vs)/\∀c∈(ks.map AV.cells).flatten,cY c
 |[],_,_,h=>by cases h;exact⟨.nil,be⟩|k::ks,_,hk,.cons _ _ v vs h1 d=>by
  obtain⟨e,f⟩:=asG (g':=g') (hk k be) h1;obtain⟨j,l⟩:=Xh (λk m=>hk k (by simp[m])) d;refine⟨by simpa[flat]using e.append j,λc b=>?_⟩;simp only[List.map_cons,List.flatten_cons,List.mem_append]at b;exact b.elim (f c) (l c)
theorem asH(ej:Fg P S E sz i z)(b9:ko P E sz=true){fz y:Nat}{fn A:Func}{c T:Code}{o:List cW}{V:cW}(zP:P.funcs[fz]?=some fn)(pI:fn.body=some c)(OH:fn.results=#[.tmp 4])(Aa:I9 fn.ntmps S E sz c=true)
  (OI:P.funcs[y]?=some A)(xZ:A.body=some T)(OJ:A.results=#[])(OK:Ci P A.ntmps o V T=true)(tx:kR P y=true)(C:kR P fz=true)
  {H:List ay}{id mid m:Nat}{es:List (AV×AV)}(h1:H[id]?=some (.cells [.map mid]))(ab:H[mid]?=some (.map m es))(p:∀e∈es,fo e.2=true)(hk:∀e∈es,su o V e.1)(X:∀e∈es,qw sz e.1=true)(bw:es.length<=M) :
  bB P gl fz [.aS sz,.fn y [.ptr id 0]] H λr H'=>(es=[]/\r=.aS sz/\H'=H)\/(es≠[]/\∃ks:List AV,ks.Perm (es.map (·.1))/\r=.bI H.length 0 ks.length sz/\H'=H++[.buf E (ks.map AV.cells).flatten,.dead]):=by
 refine⟨C,λg w vs h jy _=>?_⟩;obtain⟨b,aP,arr,ty,Y,bP,c5,fL,iO⟩:=h.heap id _ h1;obtain⟨u,aj,av,aQ,_⟩:=iO 0 _ rfl;obtain⟨bu,bG,rfl⟩:=aQ.vJ;obtain⟨oW,D,hm⟩:=h.heap mid _ ab;rw[bG]at D;simp at D;subst D;have F:vs=[.slice none 0 0,.func (.func y) #[] #[ptrTo b 0]]:=by
  cases jy with
  |cons _ _ v1 us an a6=>cases a6 with
   |cons _ _ v2 WU bY dT =>
    cases dT;have:=an.uz;subst this;cases bY with
    |pure _ _ h=>cases h|fn _ _ ws fF=>cases fF with
     |cons _ _ v3 arw l1 mF =>
      cases mF;obtain⟨b5,n,rfl⟩:=l1.tf;rw[aP]at n;simp at n;subst n;rfl
 subst F;have ae:b<w.heap.size:=(aKC.1 Y).1;have si:bu<w.heap.size:=by obtain⟨Z,n,_⟩:=hm;exact(aKC.1 n).1
 have hM:w.cell? ⟨b,0,none⟩=some (.map (some bu)):=by simp[World.cell?,Y,aj]
 refine(asu ej zP pI OH Aa OI xZ OJ OK tx p hk (λe he v p=>asF (X e he) p) hm si hM ae bw).mono ?_;rintro e W ⟨v,xs,ks,rfl,G,cO,er,d,gd,gR⟩;have J:(W.os,W.tape)=(w.os,w.tape)/\W.output=w.output:=⟨by rw[d.os,d.tape],d.output⟩;have f:xs.length=ks.length:=cO.get.1;have K:ks.length=es.length:=by simpa using G.length_eq
 by_cases L:es=[]
 ·subst L;have rA:xs=[]:=List.eq_nil_of_length_eq_zero (by rw[f,K];rfl);have O:=gR rA;subst O;have q:GhLe g g:=⟨λ_ _ _ h=>h,λ_ _ h=>h⟩;have t:Rel P gl 0 g (l9 H) tu W:=h.step .none (lu.none _) q (λb ae=>⟨rfl,d.block b (h.own b ae.1),λ_=>rfl⟩) (λb off v p=>by
   have Q:=h.fI b off v p;have bJ:b<w.heap.size:=Bw Q;unfold World.cell? at Q ⊢;rw[d.block b bJ];exact Q) (λb ae=>Nat.lt_of_lt_of_le (h.own b ae) d.size) h.ga
  exact⟨_,.aS sz,H,g,rfl,.inl ⟨rfl,rfl,rfl⟩,⟨q,λb ae=>⟨ae,d.block b (h.own b (by rw[ae];simp)),λ_=>rfl⟩,d.size,J.1,J.2⟩,t,.pure _ _ (.aS sz),.mE be⟩
 ·have oU:0<xs.length:=by have:=List.length_pos_iff.2 L;omega
  rcases gd.2 with⟨_,aK⟩|⟨nb,cap,cur,rfl,n,t2,t3,t4,t5,t6⟩
  ·omega
  have lx:∀k∈ks,qw sz k=true:=λk kq=>by
   obtain⟨e,he,rfl⟩:=aKI.1 (G.mem_iff.1 kq);exact X e he
  obtain⟨s1,s2⟩:=Xh (g':=g) lx cO;have mI:∀u∈flat xs,u.oneCell'=true:=λu hu=>by
   obtain⟨l,aC,R⟩:=List.mem_flatten.1 hu;obtain⟨x,ah,rfl⟩:=aKI.1 aC;exact(er x ah).2.1 u R
  obtain⟨g',ca,dK,fp,o1⟩:=h.Nu (w':=W) (nb:=nb) (e:=E) (sz:=sz) (us:=flat xs) (c:=cap) (cur:=cur) (.inl (by
   cases nx:g.bO nb with
   |none=>rfl|_=>have:=h.own nb (by rw[nx];simp);omega)) (λoff=>by
   cases gp:g.γ nb off with
   |none=>rfl|some v=>have:=Bw (h.fI _ _ _ gp);omega) (λk _ hk=>d.block k hk) d.size J t2 t5 (λj u B=>by
   rw[<-t6,List.getElem?_take]at B;split at B
   ·simpa using B
   ·cases B) s1 mI s2 b9 t4
  refine⟨_,.bI H.length 0 ks.length sz,H++[.buf E (ks.map AV.cells).flatten,.dead],g',rfl,.inr ⟨L,ks,G,rfl,rfl⟩,ca,dK,?_,.mE be⟩;rw[f];exact .bI _ _ _ _ _ _ _ fp o1 be am
def Xi:List AV->List (List AV)
 |[]=>[[]]|x::xs=>(Xi xs).flatMap λp=>(List.range (p.length+1)).map λi=>p.take i++[x]++p.drop i
def aN9(fz iG sz E:Nat)(base:Oc):Oc:=λf xs H =>
 bif Nat.beq f fz then(match xs with
  |[.aS dW,.fn iS [.ptr id 0]]=>(match H[id]? with
   |some (.cells [.map mid])=>(match H[mid]? with
    |some (.map _ es)=>if Nat.beq dW sz&&Nat.beq iS iG&&es.all (λe=>fo e.2)&&es.all (λe=>qw sz e.1)&&decide (es.length<=1000)then
      (match es with
       |[]=>some [(.aS sz,H)]|es=>some ((Xi (es.map (·.1))).map λks=>(.bI H.length 0 ks.length sz,H++[.buf E (ks.map AV.cells).flatten,.dead])))else none
    |_=>none)
   |_=>none)
  |_=>none)
 else base f xs H
theorem Xj{sz:Nat}{z:List AV}(b:z.length=3)(hk:qw sz k=true):(sz=1/\su [.hV 3 (.t 9)] (.hV 11 (.t 3)) k)\/(sz=3/\su [.alloc 3 z,.st 3 (.t 3) (.t 9)] (.ld 11 (.t 3) 3 true) k):=by
 cases k<;>simp only[qw,aKJ,aKB,beq_iff_eq]at hk
 ·simp_all[are]
 ·obtain⟨⟨d,e⟩,f⟩:=hk;exact .inr ⟨d,arf z _ b e λc h=>by have:=aKH.1 f c h;cases c<;>simp[Cn]at this ⊢⟩
def OL(P:Program)(S E sz:Nat):Bool :=
 (match P.underlying S with|some (.slice e)=>e==E|_=>false)&&(match P.info? S with|some j=>j.size==1|none=>false) &&
 (match P.info? E with|some i=>i.size==sz&&decide (0<sz)&&decide (sz<=2 ^ 24)&&decide (i.bytes<=128)&&(match i.zero with|some z=>z.cells.size==sz|none=>false)|none=>false) &&
 (sz==1||(match P.underlying E with|some (.struct _)=>true|_=>false))
theorem asN(h:OL P S E sz=true):∃i z,Fg P S E sz i z:=by
 simp only[OL,aKB]at h;obtain⟨⟨⟨c,d⟩,f⟩,b⟩:=h;split at c
 case h_2=>cases c
 rename_i e ds;split at d
 case h_2=>cases d
 rename_i j m;split at f
 case h_2=>cases f
 rename_i i al;simp only[aKB,beq_iff_eq,decide_eq_true_eq]at c d f;subst c;obtain⟨⟨⟨⟨n,o⟩,p⟩,q⟩,l⟩:=f;split at l
 case h_2=>cases l
 rename_i z r;refine⟨i,z,ds,⟨j,m,d⟩,al,n,o,p,r,by simpa using l,q,λcG=>?_⟩;simp only[Bool.or_eq_true,beq_iff_eq]at b;rcases b with b|b
 ·exact absurd b cG
 ·grind
def Jc(P:Program)(fz iG S E sz:Nat)(pre:List cW)(jF:cW):Bool :=
 OL P S E sz&&ko P E sz&&kR P iG&&kR P fz &&
 (match P.funcs[fz]? with
  |some fn=>(match fn.body with|some c=>I9 fn.ntmps S E sz c|none=>false)&&(match fn.results.toList with|[.tmp t]=>t==4|_=>false)|none=>false) &&
 (match P.funcs[iG]? with
  |some fn=>(match fn.body with|some c=>Ci P fn.ntmps pre jF c|none=>false)&&fn.results.toList.isEmpty|none=>false)
theorem asO(k:AV)(h:qw 1 k=true):su [.hV 3 (.t 9)] (.hV 11 (.t 3)) k:=by
 rcases Xj (z:=[.fl,.fl,.fl]) rfl h with⟨_,h⟩|⟨h,_⟩
 ·exact h
 ·cases h
theorem asP{z:List AV}(b:z.length=3)(k:AV)(h:qw 3 k=true):su [.alloc 3 z,.st 3 (.t 3) (.t 9)] (.ld 11 (.t 3) 3 true) k:=by
 rcases Xj b h with⟨h,_⟩|⟨_,h⟩
 ·cases h
 ·exact h
end
inductive I where
 |mk (name:List UInt8) (args:List I)
def I.name:I->List UInt8|.mk n _=>n
def I.args:I->List I|.mk _ l=>l
mutual
def I.enc:I->AV|.mk n l=>.agg [.str n,.list none 2 (dH l)]
def dH:List I->List AV|[]=>[]|t::r=>t.enc::dH r
end
def I.cells(t:I):List AV:=[.str t.name,.list none 2 (dH t.args)]
def gT(l:List I):AV:=.list none 2 (dH l)
theorem I.yl(t:I):t.enc=.agg t.cells:=by cases t;rfl
theorem oj(l:List I):dH l=l.map I.enc:=by
 induction l with
 |nil=>rfl|cons t r ih=>simp only[dH,List.map_cons,ih]
structure Jd(P:Program)(T L S:TypeId):Prop where
 ej:∃f0 f1:Field,P.underlying T=some (.struct #[f0,f1])/\f0.type=S/\f0.offset=0/\f1.type=L/\f1.offset=1
 cf:P.underlying L=some (.slice T)
 ds:P.underlying S=some .string
 Fm:P.cellsOf T=2
 asQ:P.cellsOf L=1
 OM:P.cellsOf S=1
structure Ac{H:Type}(kz:DataW H->Nat):Prop where
 str:∀b,b.length<=kz (.lit (.string b))
 len:∀e r,e.length<=kz (.slice e r)
 slice:∀e r,∀d∈e,kz d<=kz (.slice e r)
 agg:∀l,∀d∈l,kz d<=kz (.agg l)
section
variable {H:Type}{enc:TypeId×Value->H}{P:Program}{w:World}{base:Nat}{spare:Nat->Bool}{held:Bool}{T L S:TypeId}{γ:fA}{kz:DataW H->Nat}
theorem Xk{b:Nat}:∀{cs:List AV}{ws:List Value}{off:Nat},fX γ cs ws->(∀(i:Nat)v,ws[i]?=some v->γ b (off+i)=some v)->fB γ b off cs
 |[],_,_,_,_=>.nil _ _|c::cs,_,off,.cons _ _ v ws h1 a d,h=>by
  refine .cons _ _ _ _ v (by simpa using h 0 v be) h1 a (Xk d λi u e=>?_);have:=h (i+1) u (by simpa using e);rwa[show off+(i+1)=off+1+i by omega]at this
variable {a:Addr}
theorem asR{n:Nat}{cs:List Value}(h:w.cells? base a n=some cs):cs.length=n/\∀i v,cs[i]?=some v->w.cell? (a.add i)=some v:=by
 unfold World.cells? at h;split at h
 ·have b:=mapM_some_length h;simp at b;refine⟨b,λi v c=>?_⟩;have al:i<n:=by grind
  have:=mapM_some_get h i i (by simp[al]);rw[this,c]
 ·cases h
theorem asS{v:Value}(h:w.cell? a=some v):a.spot=none:=by
 unfold World.cell? at h;split at h
 ·simp_all
 ·cases h
end
end AM
