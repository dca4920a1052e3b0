/- An abstract machine, and what of the given program it does, part 6. Conditions: none. -/
import Derived.Test.YtmmplkgkkkjojaaGreatDoorAm4
import Derived.Attr
set_option linter.unusedSimpArgs false
set_option linter.unusedVariables false
namespace AM
open List renaming getElem?_eq_some_iff -> aKB,length_cons -> aKD,drop_eq_getElem_cons -> aKF
open Bool renaming and_eq_true -> aKC
open String renaming ofList -> aKE
open Go
def rg(bc al:Nat):List Nat:=List.range' bc (al+1-bc)
theorem asT(bc al k:Nat):(rg bc al).contains k=(decide (bc<=k)&&decide (k<=al)):=by
 rw[Bool.eq_iff_iff];simp only[rg,List.contains_iff_mem,List.mem_range'_1,aKC,decide_eq_true_eq];omega
theorem Xl(a b:List Nat)(k:Nat):(a++b).contains k=(a.contains k||b.contains k):=by grind
def N(l:Env):Env:=l.foldr (λp e=>Env.ins e p.1 p.2) []
theorem Fo(l:Env)(t:Nat)(e:dc):Env.ins (N l) t e=N ((t,e)::l):=rfl
theorem Co:∀l:Env,(N l).Pairwise λp q=>p.1<q.1
 |[]=>.nil|p::l=>Env.et.ins (Co l) p.1 p.2
theorem ON:∀{a b:Env},a.et->b.et->(∀t,a.get t=b.get t)->a=b
 |[],[],_,_,_=>rfl|[],(k,x)::r,_,_,h=>by have:=h k;simp[Env.get]at this|(k,x)::r,[],_,_,h=>by have:=h k;simp[Env.get]at this|(k,x)::r,(k',i)::r',h1,j,h=>by
  have c:=List.pairwise_cons.1 h1;have d:=List.pairwise_cons.1 j;have hk:k=k':=by
   rcases Nat.lt_trichotomy k k' with l|he|l
   ·have:=h k;simp only[Env.get,if_true,show k≠k' by omega,if_false]at this;have hm:=Env.tc (e:=r') this.symm;have:=d.1 _ hm;simp at this;omega
   ·exact he
   ·have:=h k';simp only[Env.get,if_true,show k'≠k by omega,if_false]at this;have hm:=Env.tc (e:=r) this;have:=c.1 _ hm;simp at this;omega
  subst hk;have ah:x=i:=by have:=h k;simpa[Env.get]using this
  subst ah;congr 1
  refine ON c.2 d.2 λt=>?_;have:=h t;simp only[Env.get]at this;by_cases g:t=k
  ·subst g;have m:Env.get r t=none:=by
    cases f:Env.get r t with
    |none=>rfl|some y=>have:=c.1 _ (Env.tc f);simp at this
   have n:Env.get r' t=none:=by
    cases f:Env.get r' t with
    |none=>rfl|some y=>have:=d.1 _ (Env.tc f);simp at this
   rw[m,n]
  ·simpa[g]using this
theorem qx:∀(l:Env)(t:Nat),Env.get (N l) t=Env.get l t
 |[],_=>rfl|(k,e)::l,t=>by
  show Env.get (Env.ins (N l) k e) t=_;rw[Env.hW,qx l t];rfl
def wC:Env->List Nat->Env
 |[],_=>[]|(k,.a _ _)::r,bE=>wC r (k::bE)|(k,e)::r,bE=>if bE.contains k then wC r bE else(k,e)::wC r bE
def wD(bE:List Nat)(u:Nat):Option dc->Option dc
 |some (.a _ _)=>none|some x=>if bE.contains u then none else some x|none=>none
theorem wE{bE:List Nat}{u:Nat}(h:bE.contains u=true)(o:Option dc):wD bE u o=none:=by
 cases o with
 |none=>rfl|some x=>cases x<;>simp only[wD,h,if_true]
theorem Cp:∀(l:Env)(bE:List Nat)(u:Nat),Env.get (wC l bE) u=wD bE u (Env.get l u)
 |[],_,_=>rfl|(k,.a x y)::r,bE,u=>by
  simp only[wC,Cp r,Env.get];by_cases h:u=k
  ·subst h;rw[wE be,if_pos rfl];rfl
  ·rw[if_neg h];have:(k::bE).contains u=bE.contains u:=by simp[h]
   cases Env.get r u with
   |none=>rfl|some x=>cases x<;>simp only[wD,this]
 |(k,.v x)::r,bE,u=>by
  simp only[wC,Env.get];by_cases hk:bE.contains k=true
  ·rw[if_pos hk,Cp r];by_cases h:u=k
   ·subst h;rw[wE hk,wE hk]
   ·rw[if_neg h]
  ·rw[if_neg hk];simp only[Env.get,Cp r];by_cases h:u=k
   ·subst h;rw[if_pos rfl,if_pos rfl];simp only[wD];rw[if_neg hk]
   ·rw[if_neg h,if_neg h]
 |(k,.b x)::r,bE,u=>by
  simp only[wC,Env.get];by_cases hk:bE.contains k=true
  ·rw[if_pos hk,Cp r];by_cases h:u=k
   ·subst h;rw[wE hk,wE hk]
   ·rw[if_neg h]
  ·rw[if_neg hk];simp only[Env.get,Cp r];by_cases h:u=k
   ·subst h;rw[if_pos rfl,if_pos rfl];simp only[wD];rw[if_neg hk]
   ·rw[if_neg h,if_neg h]
theorem Xm:∀{e:Env}(_:e.et)(bE:List Nat)(u:Nat),Env.get (e.close bE) u=wD bE u (e.get u)
 |[],_,_,_=>rfl|(k,x)::r,ax,bE,u=>by
  have c:=List.pairwise_cons.1 ax;have ih:=Xm c.2 bE u;have d:u=k->Env.get r u=none:=λh=>by
   cases f:Env.get r u with
   |none=>rfl|some y=>have:=c.1 _ (Env.tc f);simp at this;omega
  cases x with
  |a p q =>
   simp only[Env.close,Env.get,ih];by_cases h:u=k
   ·rw[d h,if_pos h];rfl
   ·rw[if_neg h]
  |v y =>
   simp only[Env.close,Env.get];by_cases hk:bE.contains k=true
   ·rw[if_pos hk,ih];by_cases h:u=k
    ·subst h;rw[wE hk,wE hk]
    ·rw[if_neg h]
   ·rw[if_neg hk];simp only[Env.get,ih];by_cases h:u=k
    ·subst h;rw[if_pos rfl,if_pos rfl];simp only[wD];rw[if_neg hk]
    ·rw[if_neg h,if_neg h]
  |b y =>
   simp only[Env.close,Env.get];by_cases hk:bE.contains k=true
   ·rw[if_pos hk,ih];by_cases h:u=k
    ·subst h;rw[wE hk,wE hk]
    ·rw[if_neg h]
   ·rw[if_neg hk];simp only[Env.get,ih];by_cases h:u=k
    ·subst h;rw[if_pos rfl,if_pos rfl];simp only[wD];rw[if_neg hk]
    ·rw[if_neg h,if_neg h]
theorem asU(l:Env)(bE:List Nat):(N l).close bE=N (wC l bE) :=
 ON (Env.et.close (Co l) bE) (Co _) λt=>by rw[Xm (Co l),qx,qx,Cp]
theorem asV{l:Env}(h:l.et):N l=l:=ON (Co l) h λt=>qx l t
theorem asW(xs:List AV):N (mR 0 xs)=mR 0 xs:=asV (N9 xs 0)
def yn:Env->List Nat->Nat->Bool
 |[],_,_=>false|(k,e)::r,bE,d=>(!bE.contains k&&(match e with|.a u _=>u==d|_=>false))||yn r (k::bE) d
theorem asX{e:Env}(ax:e.et)(d:Nat):mD e d=true↔∃k off,e.get k=some (.a d off):=by
 simp only[mD,List.any_eq_true];constructor
 ·rintro⟨⟨k,x⟩,hm,ah⟩;cases x with
  |a u off=>simp at ah;subst ah;exact⟨k,off,Env.get_of_mem ax hm⟩|v y=>simp at ah|b y=>simp at ah
 ·rintro⟨k,off,h⟩;exact⟨(k,.a d off),Env.tc h,be⟩
theorem Xn:∀(l:Env)(bE:List Nat)(d:Nat),yn l bE d=true↔∃k off,bE.contains k=false/\Env.get l k=some (.a d off)
 |[],bE,d=>by simp[yn,Env.get]|(k,e)::r,bE,d=>by
  simp only[yn,Bool.or_eq_true,aKC,Bool.not_eq_true',Xn r,Env.get];constructor
  ·grind
  ·grind
theorem Xo(l:Env)(d:Nat):mD (N l) d=yn l [] d:=by
 rw[Bool.eq_iff_iff,asX (Co l),Xn];constructor
 ·rintro⟨k,off,h⟩;exact⟨k,off,rfl,by rw[<-qx];exact h⟩
 ·rintro⟨k,off,_,h⟩;exact⟨k,off,by rw[qx];exact h⟩
theorem b7(l:Env):N l=l.foldr (λp e=>Env.ins e p.1 p.2) []:=rfl
attribute [irreducible] N
structure aN{α:Sort _}(x:α):Type where
 mk ::
def cC(o:Option au)(K:au->Prop)(_:aN K):Prop:=match o with|some s=>K s|none=>False
def bV{α:Type}(o:Option α)(K:α->Prop)(_:aN K):Prop:=match o with|some x=>K x|none=>False
def OO(o:Option Bool)(K:Bool->Prop)(_:aN K):Prop:=match o with|some b=>K b|none=>False
def OP(o:Option AV)(K:Bool->Prop)(_:aN K):Prop:=match o with|some (.bool b)=>K b|_=>False
def jj(b:Bool)(K:Bool->Prop)(_:aN K):Prop:=K b
theorem asY{s:au}{K:au->Prop}{t:aN K}:cC (some s) K t=K s:=id rfl
theorem eI{α:Type}{x:α}{K:α->Prop}{t:aN K}:bV (some x) K t=K x:=id rfl
variable {b:Bool}{K:Bool->Prop}{t:aN K}
theorem asZ :OO (some b) K t=jj b K ⟨⟩:=id rfl
theorem as0 :OP (some (.bool b)) K t=jj b K ⟨⟩:=id rfl
theorem Xp :jj true K t=K true:=id rfl
theorem Xq :jj false K t=K false:=id rfl
section
variable (P:Program)(gl:cQ)(D:bj)
def jG(c:az)(s:au)(Q:k7->au->Prop)(_:aN Q):Prop:=exec P gl D c s Q
def wF(dp:List bq)(s:au)(K:au->Prop)(_:aN K):Prop:=kx P gl D dp s K
def b4(s:au)(K:au->Prop)(_:aN K)(o:cW):Prop:=dj P gl D s K o
end
section
variable {P:Program}{gl:cQ}{D:bj}
variable {Q:k7->au->Prop}
theorem as1{c:az}{xs:List AV}{H:List ay} :exec P gl D c ⟨mR 0 xs,H⟩ Q=jG P gl D c ⟨N (mR 0 xs),H⟩ Q ⟨⟩:=by rw[asW];rfl
variable {s:au}{t:aN Q}
theorem as2 :jG P gl D .skip s Q t=Q .normal s:=id rfl
theorem as3{dp:List bq}{a:List Nat} :jG P gl D (.aa dp a) s Q t=wF P gl D dp s (λs'=>Q .normal { s' with env:=s'.env.close a }) ⟨⟩:=id rfl
variable {x y:az}
theorem as4 :jG P gl D (.seq x y) s Q t=jG P gl D x s (λe s'=>match e with|.normal=>jG P gl D y s' Q ⟨⟩|e=>Q e s') ⟨⟩:=id rfl
variable {c:aL}
theorem as5 :jG P gl D (.cond c x y) s Q t=OP (br gl s.env c) (λb=>match b with|true=>jG P gl D x s Q ⟨⟩|false=>jG P gl D y s Q ⟨⟩) ⟨⟩:=by
 simp only[jG,exec,OP];cases br gl s.env c with
 |none=>rfl|some v=>cases v with
  |bool b=>cases b<;>simp|_=>rfl
variable {i:Nat}
theorem as6 :jG P gl D (.block i x) s Q t=jG P gl D x s (λe s=>match e with|.exit j=>if j=i then Q .normal s else Q (.exit j) s|e=>Q e s) ⟨⟩:=id rfl
theorem as7 :jG P gl D (.exit i) s Q t=Q (.exit i) s:=id rfl
theorem as8 :jG P gl D .ret s Q t=Q .ret s:=id rfl
variable {u:Nat}
theorem as9 :jG P gl D (.kill u x) s Q t=jG P gl D x (BV s u) Q ⟨⟩:=id rfl
variable {e sz:Nat}
theorem ata :jG P gl D (.q6 u e sz x) s Q t=cC (BR s u e sz) (λs'=>jG P gl D x s' Q ⟨⟩) ⟨⟩:=id rfl
variable {off:Nat}
theorem atb :jG P gl D (.ta u off e sz x) s Q t=cC (BS s u off e sz) (λs'=>jG P gl D x s' Q ⟨⟩) ⟨⟩:=id rfl
variable {K:au->Prop}{t:aN K}
theorem atc :wF P gl D [] s K t=K s:=id rfl
variable {o:cW}{r:List bq}
theorem atd :wF P gl D (⟨none,o⟩::r) s K t=b4 P gl D s (λs'=>wF P gl D r s' K ⟨⟩) ⟨⟩ o:=id rfl
theorem ate{w:Bool} :wF P gl D (⟨some (u,w),o⟩::r) s K t=OO (mN s.env (some (u,w))) (λb=>match b with
  |true=>b4 P gl D s (λa=>wF P gl D r a K ⟨⟩) ⟨⟩ o|false=>(match jh o with
   |some d=>cC (s.put d (.bg [])) (λa=>wF P gl D r a K ⟨⟩) ⟨⟩|none=>wF P gl D r s K ⟨⟩)) ⟨⟩:=by
 simp only[wF,kx,OO];cases mN s.env (some (u,w))with
 |none=>rfl|some b=>cases b<;>rfl
variable {d:Option Nat}{f:Nat}{xs:List aL}
theorem Xr :b4 P gl D s K t (.eP d f xs)=bV (e8 gl s.env xs) (λvs=>(vs.map AV.a1).all AV.arg=true /\
   bV (D f (vs.map AV.a1)) (λr=>aA P gl f (vs.map AV.a1) r/\cC (s.fO d r) K ⟨⟩) ⟨⟩) ⟨⟩:=by
 simp only[b4,dj,bV];cases e8 gl s.env xs with
 |none=>rfl|some vs =>
  refine congrArg (λp=>(vs.map AV.a1).all AV.arg=true/\p) ?_;cases D f (vs.map AV.a1)with
  |none=>rfl|some r=>rfl
theorem Xs :b4 P gl D s K t (.iu d f xs)=bV (e8 gl s.env xs) (λvs=>kv P gl f (vs.map AV.a1) s.heap λr H'=>cC (({ s with heap:=H' }:au).fO d r) K ⟨⟩) ⟨⟩:=by
 simp only[b4,dj,bV];cases e8 gl s.env xs with
 |none=>rfl|some vs=>rfl
variable {x:aL}
theorem Xt :b4 P gl D s K t (.lY d x xs)=bV (br gl s.env x) (λv=>match v with
  |.fn f hb=>bV (e8 gl s.env xs) (λvs=>kv P gl f (vs.map AV.a1++hb.map AV.a1) s.heap λr a=>cC (({ s with heap:=a }:au).fO d r) K ⟨⟩) ⟨⟩|_=>False) ⟨⟩:=by
 simp only[b4,dj,bV];cases br gl s.env x with
 |none=>rfl|some v=>cases v with
  |fn f hb=>cases e8 gl s.env xs<;>rfl|_=>rfl
theorem Xu :b4 P gl D s K t (.mC d f xs)=bV (e8 gl s.env xs) (λvs=>kv P gl f (vs.map AV.a1) s.heap λr H'=>(∃n,H'=s.heap++List.replicate n .dead)/\cC (({ s with heap:=H' }:au).fO d r) K ⟨⟩) ⟨⟩:=by
 simp only[b4,dj,bV];cases e8 gl s.env xs with
 |none=>rfl|some vs=>rfl
theorem Xv :b4 P gl D s K t (.lX d f u xs)=bV (Env.get s.env u) (λe=>bV (e8 gl s.env xs) (λvs=>match e with
  |.v (.list (some e) sz ys)=>kv P gl f (.list (some e) sz ys::vs.map AV.a1) s.heap λr a=>cC ((⟨s.env.ins u (.v (.list none sz ys)),a⟩:au).fO d r) K ⟨⟩|.v v=>kv P gl f (v.a1::vs.map AV.a1) s.heap λr a=>cC (({ s with heap:=a }:au).fO d r) K ⟨⟩|_=>False) ⟨⟩) ⟨⟩:=by
 simp only[b4,dj,bV];cases Env.get s.env u with
 |none=>rfl|some e=>cases e8 gl s.env xs with
  |none=>grind|some vs=>cases e with
   |v x=>cases x with
    |list own sz ys=>cases own<;>rfl|_=>rfl
   |_=>rfl
variable {d:Nat}{it:aL}
theorem Xw :b4 P gl D s K t (.nU d it)=bV ((br gl s.env it).bind (r9 s.heap)) (λ(id,m,since,seen,es)=>match es with
   |[]=>cC (s.put d (.bg [.bool false])) K ⟨⟩|e0::es=>∀e∈e0::es,cC (({ s with heap:=s.heap.set id (.iter m since (seen++[e.1])) }:au).put d (.bg [.bool true,e.1,e.2.a1])) K ⟨⟩) ⟨⟩:=by
 simp only[b4,dj,bV];cases (br gl s.env it).bind (r9 s.heap)with
 |none=>rfl|some x=>obtain⟨id,m,since,seen,es⟩:=x;cases es<;>rfl
theorem Xx :b4 P gl D s K t (.hV d x)=cC (aJ gl s (.hV d x)) K ⟨⟩:=id rfl
theorem Xy{x:Nat} :b4 P gl D s K t (.p9 d x)=cC (aJ gl s (.p9 d x)) K ⟨⟩:=id rfl
theorem Xz{a b:aL} :b4 P gl D s K t (.pick d c a b)=cC (aJ gl s (.pick d c a b)) K ⟨⟩:=id rfl
variable {m:Nat}{y:aL}
theorem XA{op:BinOp} :b4 P gl D s K t (.bin d m op x y)=cC (aJ gl s (.bin d m op x y)) K ⟨⟩:=id rfl
variable {ne:Bool}{ks:List Nat}
theorem atg :b4 P gl D s K t (.ur d ne ks x y)=cC (aJ gl s (.ur d ne ks x y)) K ⟨⟩:=id rfl
theorem XB :b4 P gl D s K t (.qa d x)=cC (aJ gl s (.qa d x)) K ⟨⟩:=id rfl
theorem XC{k:IntKind} :b4 P gl D s K t (.conv d k x)=cC (aJ gl s (.conv d k x)) K ⟨⟩:=id rfl
theorem XD{x:Nat} :b4 P gl D s K t (.ext d x i)=cC (aJ gl s (.ext d x i)) K ⟨⟩:=id rfl
theorem XE :b4 P gl D s K t (.len d m x)=cC (aJ gl s (.len d m x)) K ⟨⟩:=id rfl
variable {z:List AV}
theorem ath :b4 P gl D s K t (.alloc d z)=cC (aJ gl s (.alloc d z)) K ⟨⟩:=id rfl
theorem XF :b4 P gl D s K t (.box d x)=cC (aJ gl s (.box d x)) K ⟨⟩:=id rfl
theorem ati :b4 P gl D s K t (.kc d z)=cC (aJ gl s (.kc d z)) K ⟨⟩:=id rfl
theorem XG :b4 P gl D s K t (.s0 d x)=cC (aJ gl s (.s0 d x)) K ⟨⟩:=id rfl
theorem XH :b4 P gl D s K t (.s3 d x)=cC (aJ gl s (.s3 d x)) K ⟨⟩:=id rfl
theorem XI{parts:List (Nat×Nat×aL)} :b4 P gl D s K t (.build d z parts)=cC (aJ gl s (.build d z parts)) K ⟨⟩:=id rfl
theorem XJ :b4 P gl D s K t (.lit d sz xs)=cC (aJ gl s (.lit d sz xs)) K ⟨⟩:=id rfl
theorem XK :b4 P gl D s K t (.fz d x off)=cC (aJ gl s (.fz d x off)) K ⟨⟩:=id rfl
variable {i:aL}
theorem XL :b4 P gl D s K t (.lV d sz x i)=cC (aJ gl s (.lV d sz x i)) K ⟨⟩:=id rfl
variable {n:Nat}
theorem XM :b4 P gl D s K t (.oJ d x n sz i)=cC (aJ gl s (.oJ d x n sz i)) K ⟨⟩:=id rfl
theorem XN{nB:Bool} :b4 P gl D s K t (.ld d x n nB)=cC (aJ gl s (.ld d x n nB)) K ⟨⟩:=id rfl
theorem XO :b4 P gl D s K t (.je d x e sz)=cC (aJ gl s (.je d x e sz)) K ⟨⟩:=id rfl
variable {v:aL}
theorem XP :b4 P gl D s K t (.st n x v)=cC (aJ gl s (.st n x v)) K ⟨⟩:=id rfl
theorem XQ{v:Nat} :b4 P gl D s K t (.ir x v)=cC (aJ gl s (.ir x v)) K ⟨⟩:=id rfl
theorem XR :b4 P gl D s K t (.idx d x i)=cC (aJ gl s (.idx d x i)) K ⟨⟩:=id rfl
variable {bc al:Option aL}
theorem XS :b4 P gl D s K t (.qb d sz x bc al)=cC (aJ gl s (.qb d sz x bc al)) K ⟨⟩:=id rfl
theorem XT :b4 P gl D s K t (.q4 d x n sz bc al)=cC (aJ gl s (.q4 d x n sz bc al)) K ⟨⟩:=id rfl
theorem XU :b4 P gl D s K t (.app d u x e sz)=cC (aJ gl s (.app d u x e sz)) K ⟨⟩:=id rfl
theorem XV :b4 P gl D s K t (.hL d x)=cC (aJ gl s (.hL d x)) K ⟨⟩:=id rfl
theorem XW{hb:List aL} :b4 P gl D s K t (.pq d f hb)=cC (aJ gl s (.pq d f hb)) K ⟨⟩:=id rfl
theorem XX :b4 P gl D s K t (.r3 d c e sz)=cC (aJ gl s (.r3 d c e sz)) K ⟨⟩:=id rfl
theorem XY :b4 P gl D s K t (.r4 d x e sz)=cC (aJ gl s (.r4 d x e sz)) K ⟨⟩:=id rfl
theorem XZ{k6:Bool} :b4 P gl D s K t (.r5 d k6 x y)=cC (aJ gl s (.r5 d k6 x y)) K ⟨⟩:=id rfl
variable {m k:aL}{zero:AV}
theorem X0{ok:Bool} :b4 P gl D s K t (.look ks d m k zero ok)=cC (aJ gl s (.look ks d m k zero ok)) K ⟨⟩:=id rfl
theorem X1 :b4 P gl D s K t (.iN ks d m k zero)=cC (aJ gl s (.iN ks d m k zero)) K ⟨⟩:=id rfl
theorem X2 :b4 P gl D s K t (.qc ks m k v)=cC (aJ gl s (.qc ks m k v)) K ⟨⟩:=id rfl
theorem X3{v:Nat} :b4 P gl D s K t (.q5 ks m k v)=cC (aJ gl s (.q5 ks m k v)) K ⟨⟩:=id rfl
theorem X4{d:Option Nat} :b4 P gl D s K t (.qd ks d m k)=cC (aJ gl s (.qd ks d m k)) K ⟨⟩:=id rfl
theorem X5 :b4 P gl D s K t (.r6 d m)=cC (aJ gl s (.r6 d m)) K ⟨⟩:=id rfl
theorem X6 :b4 P gl D s K t (.oK d it)=cC (aJ gl s (.oK d it)) K ⟨⟩:=id rfl
theorem X7 :b4 P gl D s K t (.s4 d e sz xs)=cC (aJ gl s (.s4 d e sz xs)) K ⟨⟩:=id rfl
theorem atj :b4 P gl D s K t (.s5 d e z x)=cC (aJ gl s (.s5 d e z x)) K ⟨⟩:=id rfl
theorem X8{sb:Bool}{u:aL} :b4 P gl D s K t (.r7 d e sz sb u x)=cC (aJ gl s (.r7 d e sz sb u x)) K ⟨⟩:=id rfl
theorem X9 :b4 P gl D s K t (.r8 d ne x)=cC (aJ gl s (.r8 d ne x)) K ⟨⟩:=id rfl
theorem Ya :b4 P gl D s K t (.s6 d x)=cC (aJ gl s (.s6 d x)) K ⟨⟩:=id rfl
theorem Yb{n:aL} :b4 P gl D s K t (.s7 d e x n)=cC (aJ gl s (.s7 d e x n)) K ⟨⟩:=id rfl
theorem Yc :b4 P gl D s K t (.s8 d f x)=cC (aJ gl s (.s8 d f x)) K ⟨⟩:=id rfl
theorem atk :b4 P gl D s K t (.uu d f x y)=cC (aJ gl s (.uu d f x y)) K ⟨⟩:=id rfl
theorem atl{m:Nat} :b4 P gl D s K t (.on m o)=cC (aJ gl s (.on m o)) K ⟨⟩:=id rfl
end
attribute [go_sem ↓] as1 as2 as3 as4 as5 as6 as7 as8 as9 ata atb atc atd ate Xr Xs Xt Xu Xv Xw Xx Xy Xz XA atg XB XC XD XE ath XF ati XG XH XI XJ XK XL XM XN XO XP XQ XR XS XT XU XV XW XX XY XZ X0 X1 X2 X3 X4 X5 X6 X7 atj X8 X9 Ya Yb Yc atk atl
attribute [go_sem] Fo qx asU Xo wC yn asT Xl asY eI asZ as0 Xp Xq
attribute [go_sem] aJ br e8 e9 hc au.put au.lZ au.fO Env.get mR eQ setCells Hu Hv Hw h9 oL eV gk mN jh tv BW BX yg
attribute [go_sem] ne_eq not_false_eq_true not_true_eq_false List.nil_append List.cons_append Option.map_some Option.map_none beq_true beq_false List.set_cons_zero List.set_cons_succ List.length_set List.all_cons List.all_nil List.any_cons List.any_nil List.map_cons List.map_nil List.take List.drop aKD List.length_nil List.length_map List.getElem?_cons_zero List.getElem?_cons_succ Option.bind_some Option.bind_none Bool.and_true Bool.true_and Bool.and_false Bool.false_and Bool.or_true Bool.true_or Bool.or_false Bool.false_or Bool.not_true Bool.not_false
attribute [go_sem] true_and and_true and_self or_self or_false or_true false_or true_or if_true if_false ite_true ite_false decide_true decide_false Bool.false_eq_true List.contains_cons List.contains_nil Nat.zero_add Nat.add_zero Nat.lt_irrefl Nat.not_lt_zero beq_self_eq_true
theorem atm(b:Bool):AV.cells (AV.bool b)=[(AV.bool b)]:=rfl
theorem atn(b:Bool):AV.a1 (AV.bool b)=(AV.bool b):=rfl
theorem ato(b:Bool):AV.one (AV.bool b)=true:=rfl
theorem atp(b:Bool):AV.eH (AV.bool b)=true:=rfl
theorem atq(b:Bool):AV.pure (AV.bool b)=true:=rfl
theorem atr(b:Bool):AV.arg (AV.bool b)=true:=rfl
theorem ats(b:Bool):AV.res (AV.bool b)=true:=rfl
theorem att(b:Bool):AV.ju (AV.bool b)=none:=rfl
theorem atu(k:IntKind)(n:Int):AV.cells (AV.int k n)=[(AV.int k n)]:=rfl
theorem atv(k:IntKind)(n:Int):AV.a1 (AV.int k n)=(AV.int k n):=rfl
theorem atw(k:IntKind)(n:Int):AV.one (AV.int k n)=true:=rfl
theorem atx(k:IntKind)(n:Int):AV.eH (AV.int k n)=true:=rfl
theorem aty(k:IntKind)(n:Int):AV.pure (AV.int k n)=true:=rfl
theorem atz(k:IntKind)(n:Int):AV.arg (AV.int k n)=true:=rfl
theorem atA(k:IntKind)(n:Int):AV.res (AV.int k n)=true:=rfl
theorem atB(k:IntKind)(n:Int):AV.ju (AV.int k n)=none:=rfl
theorem atC(s:List UInt8):AV.cells (AV.str s)=[(AV.str s)]:=rfl
theorem atD(s:List UInt8):AV.a1 (AV.str s)=(AV.str s):=rfl
theorem atE(s:List UInt8):AV.one (AV.str s)=true:=rfl
theorem atF(s:List UInt8):AV.eH (AV.str s)=true:=rfl
theorem atG(s:List UInt8):AV.pure (AV.str s)=true:=rfl
theorem atH(s:List UInt8):AV.arg (AV.str s)=true:=rfl
theorem atI(s:List UInt8):AV.res (AV.str s)=true:=rfl
theorem atJ(s:List UInt8):AV.ju (AV.str s)=none:=rfl
theorem atK :AV.cells AV.fl=[AV.fl]:=rfl
theorem atL :AV.a1 AV.fl=AV.fl:=rfl
theorem atM :AV.one AV.fl=true:=rfl
theorem atN :AV.eH AV.fl=true:=rfl
theorem atO :AV.pure AV.fl=true:=rfl
theorem atP :AV.arg AV.fl=true:=rfl
theorem atQ :AV.res AV.fl=true:=rfl
theorem atS :AV.ju AV.fl=none:=rfl
theorem atT(i o:Nat):AV.cells (AV.ptr i o)=[(AV.ptr i o)]:=rfl
theorem atU(i o:Nat):AV.a1 (AV.ptr i o)=(AV.ptr i o):=rfl
theorem atV(i o:Nat):AV.one (AV.ptr i o)=true:=rfl
theorem atW(i o:Nat):AV.eH (AV.ptr i o)=false:=rfl
theorem atX(i o:Nat):AV.pure (AV.ptr i o)=false:=rfl
theorem atY(i o:Nat):AV.arg (AV.ptr i o)=false:=rfl
theorem atZ(i o:Nat):AV.res (AV.ptr i o)=false:=rfl
theorem at0(i o:Nat):AV.ju (AV.ptr i o)=none:=rfl
theorem at1(cs:List AV):AV.cells (AV.cL cs)=[(AV.cL cs)]:=rfl
theorem at2(cs:List AV):AV.a1 (AV.cL cs)=(AV.cL cs):=rfl
theorem at3(cs:List AV):AV.one (AV.cL cs)=true:=rfl
theorem at4(cs:List AV):AV.eH (AV.cL cs)=true:=rfl
theorem at5(cs:List AV):AV.pure (AV.cL cs)=true:=rfl
theorem at6(cs:List AV):AV.arg (AV.cL cs)=true:=rfl
theorem at7(cs:List AV):AV.res (AV.cL cs)=true:=rfl
theorem aua(cs:List AV):AV.ju (AV.cL cs)=none:=rfl
theorem aub(o:Option Nat)(z:Nat)(xs:List AV):AV.cells (AV.list o z xs)=[(AV.list o z xs)]:=rfl
theorem auc(o:Option Nat)(z:Nat)(xs:List AV):AV.a1 (AV.list o z xs)=AV.list none z xs:=rfl
theorem aud(o:Option Nat)(z:Nat)(xs:List AV):AV.one (AV.list o z xs)=true:=rfl
theorem aue(o:Option Nat)(z:Nat)(xs:List AV):AV.res (AV.list o z xs)=true:=rfl
theorem auf(z:Nat)(xs:List AV):AV.eH (AV.list none z xs)=true:=rfl
theorem aug(e z:Nat)(xs:List AV):AV.eH (AV.list (some e) z xs)=false:=rfl
theorem auh(z:Nat)(xs:List AV):AV.pure (AV.list none z xs)=true:=rfl
theorem aui(e z:Nat)(xs:List AV):AV.pure (AV.list (some e) z xs)=false:=rfl
theorem auj(z:Nat)(xs:List AV):AV.arg (AV.list none z xs)=true:=rfl
theorem auk(e z:Nat)(xs:List AV):AV.arg (AV.list (some e) z xs)=false:=rfl
theorem aul(o:Option Nat)(z:Nat)(xs:List AV):AV.ju (AV.list o z xs)=some (z,xs):=rfl
theorem aum(i:Nat):AV.cells (AV.map i)=[(AV.map i)]:=rfl
theorem aun(i:Nat):AV.a1 (AV.map i)=(AV.map i):=rfl
theorem auo(i:Nat):AV.one (AV.map i)=true:=rfl
theorem aup(i:Nat):AV.eH (AV.map i)=false:=rfl
theorem auq(i:Nat):AV.pure (AV.map i)=false:=rfl
theorem aur(i:Nat):AV.arg (AV.map i)=false:=rfl
theorem aus(i:Nat):AV.res (AV.map i)=false:=rfl
theorem aut(i:Nat):AV.ju (AV.map i)=none:=rfl
theorem auu :AV.cells AV.ha=[AV.ha]:=rfl
theorem auv :AV.a1 AV.ha=AV.ha:=rfl
theorem auw :AV.one AV.ha=true:=rfl
theorem auy :AV.eH AV.ha=true:=rfl
theorem auz :AV.pure AV.ha=true:=rfl
theorem auA :AV.arg AV.ha=true:=rfl
theorem auB :AV.res AV.ha=true:=rfl
theorem auC :AV.ju AV.ha=none:=rfl
theorem auD(f:Nat)(cs:List AV):AV.cells (AV.fn f cs)=[(AV.fn f cs)]:=rfl
theorem auE(f:Nat)(cs:List AV):AV.a1 (AV.fn f cs)=(AV.fn f cs):=rfl
theorem auF(f:Nat)(cs:List AV):AV.one (AV.fn f cs)=true:=rfl
theorem auG(f:Nat)(cs:List AV):AV.eH (AV.fn f cs)=false:=rfl
theorem auH(f:Nat)(cs:List AV):AV.pure (AV.fn f cs)=false:=rfl
theorem auI(f:Nat)(cs:List AV):AV.arg (AV.fn f cs)=cs.all AV.eH:=rfl
theorem auJ(f:Nat)(cs:List AV):AV.res (AV.fn f cs)=cs.all AV.eH:=rfl
theorem auK(f:Nat)(cs:List AV):AV.ju (AV.fn f cs)=none:=rfl
theorem auL :AV.cells AV.k4=[AV.k4]:=rfl
theorem auM :AV.a1 AV.k4=AV.k4:=rfl
theorem auN :AV.one AV.k4=true:=rfl
theorem auO :AV.eH AV.k4=true:=rfl
theorem auP :AV.pure AV.k4=true:=rfl
theorem auQ :AV.arg AV.k4=true:=rfl
theorem auR :AV.res AV.k4=true:=rfl
theorem auS :AV.ju AV.k4=none:=rfl
theorem auT :AV.cells AV.k5=[AV.k5]:=rfl
theorem auU :AV.a1 AV.k5=AV.k5:=rfl
theorem auV :AV.one AV.k5=true:=rfl
theorem auW :AV.eH AV.k5=true:=rfl
theorem auX :AV.pure AV.k5=true:=rfl
theorem auY :AV.arg AV.k5=true:=rfl
theorem auZ :AV.res AV.k5=true:=rfl
theorem au0 :AV.ju AV.k5=none:=rfl
theorem au1(z:Nat):AV.cells (AV.aS z)=[(AV.aS z)]:=rfl
theorem au2(z:Nat):AV.a1 (AV.aS z)=(AV.aS z):=rfl
theorem au3(z:Nat):AV.one (AV.aS z)=true:=rfl
theorem au4(z:Nat):AV.eH (AV.aS z)=true:=rfl
theorem au5(z:Nat):AV.pure (AV.aS z)=true:=rfl
theorem au6(z:Nat):AV.arg (AV.aS z)=true:=rfl
theorem au7(z:Nat):AV.res (AV.aS z)=true:=rfl
theorem au8(z:Nat):AV.ju (AV.aS z)=some (z,[]):=rfl
theorem au9(z:Nat):AV.cells (AV.lU z)=[(AV.lU z)]:=rfl
theorem ava(z:Nat):AV.a1 (AV.lU z)=(AV.lU z):=rfl
theorem avb(z:Nat):AV.one (AV.lU z)=true:=rfl
theorem avc(z:Nat):AV.eH (AV.lU z)=false:=rfl
theorem avd(z:Nat):AV.pure (AV.lU z)=false:=rfl
theorem ave(z:Nat):AV.arg (AV.lU z)=false:=rfl
theorem avf(z:Nat):AV.res (AV.lU z)=false:=rfl
theorem avg(z:Nat):AV.ju (AV.lU z)=none:=rfl
theorem avh(z:Nat):AV.cells (AV.hK z)=[(AV.hK z)]:=rfl
theorem avi(z:Nat):AV.a1 (AV.hK z)=(AV.hK z):=rfl
theorem avj(z:Nat):AV.one (AV.hK z)=true:=rfl
theorem avk(z:Nat):AV.eH (AV.hK z)=true:=rfl
theorem avl(z:Nat):AV.pure (AV.hK z)=true:=rfl
theorem avm(z:Nat):AV.arg (AV.hK z)=true:=rfl
theorem avn(z:Nat):AV.res (AV.hK z)=true:=rfl
theorem avo(z:Nat):AV.ju (AV.hK z)=some (z,[]):=rfl
theorem avp(i o n z:Nat):AV.cells (AV.bI i o n z)=[(AV.bI i o n z)]:=rfl
theorem avq(i o n z:Nat):AV.a1 (AV.bI i o n z)=(AV.bI i o n z):=rfl
theorem avr(i o n z:Nat):AV.one (AV.bI i o n z)=true:=rfl
theorem avs(i o n z:Nat):AV.eH (AV.bI i o n z)=false:=rfl
theorem avt(i o n z:Nat):AV.pure (AV.bI i o n z)=false:=rfl
theorem avu(i o n z:Nat):AV.arg (AV.bI i o n z)=false:=rfl
theorem avv(i o n z:Nat):AV.res (AV.bI i o n z)=false:=rfl
theorem avw(i o n z:Nat):AV.ju (AV.bI i o n z)=none:=rfl
theorem avx(cs:List AV):AV.cells (AV.agg cs)=cs:=rfl
theorem avy(cs:List AV):AV.a1 (AV.agg cs)=(AV.agg cs):=rfl
theorem avz(cs:List AV):AV.one (AV.agg cs)=false:=rfl
theorem avA(cs:List AV):AV.eH (AV.agg cs)=false:=rfl
theorem avB(cs:List AV):AV.pure (AV.agg cs)=cs.all AV.eH:=rfl
theorem avC(cs:List AV):AV.arg (AV.agg cs)=cs.all AV.eH:=rfl
theorem avD(cs:List AV):AV.res (AV.agg cs)=cs.all AV.eH:=rfl
theorem avE(cs:List AV):AV.ju (AV.agg cs)=none:=rfl
theorem avF(cs:List AV):AV.cells (AV.bg cs)=[(AV.bg cs)]:=rfl
theorem avG(cs:List AV):AV.a1 (AV.bg cs)=(AV.bg cs):=rfl
theorem avH(cs:List AV):AV.one (AV.bg cs)=false:=rfl
theorem avI(cs:List AV):AV.eH (AV.bg cs)=false:=rfl
theorem avJ(cs:List AV):AV.pure (AV.bg cs)=false:=rfl
theorem avK(cs:List AV):AV.res (AV.bg cs)=cs.all AV.arg:=rfl
theorem avL(cs:List AV):AV.ju (AV.bg cs)=none:=rfl
attribute [go_sem] avh avi avj avk avl avm avn avo atm atn ato atp atq atr ats att atu atv atw atx aty atz atA atB atC atD atE atF atG atH atI atJ atK atL atM atN atO atP atQ atS atT atU atV atW atX atY atZ at0 at1 at2 at3 at4 at5 at6 at7 aua aub auc aud aue auf aug auh aui auj auk aul aum aun auo aup auq aur aus aut auu auv auw auy auz auA auB auC auD auE auF auG auH auI auJ auK auL auM auN auO auP auQ auR auS auT auU auV auW auX auY auZ au0 au1 au2 au3 au4 au5 au6 au7 au8 au9 ava avb avc avd ave avf avg avp avq avr avs avt avu avv avw avx avy avz avA avB avC avD avE avF avG avH avI avJ avK avL
section
variable {P:Program}{gl:cQ}{D:bj}
theorem bQ{d:Type}{bE:List Nat}{c:az}{s:au}{Q:k7->au->Prop}(E:d->au)(a:d->Prop)(r:d->Nat)(g:d)(gq:a g)(l:({ s with env:=s.env.close bE }:au)=E g)
  (step:∀i,a i->jG P gl D c (E i) (λe f=>match e with|.normal=>∃j,a j/\r j<r i/\({ f with env:=f.env.close bE }:au)=E j|e=>Q e f) ⟨⟩){t:aN Q} :
  jG P gl D (.loop (.drop bE c)) s Q t:=by
 show exec P gl D (.loop (.drop bE c)) s Q;have key:∀n i,r i=n->a i->∀s:au,({ s with env:=s.env.close bE }:au)=E i->exec P gl D (.loop (.drop bE c)) s Q:=by
  intro n;induction n using Nat.strongRecOn with
  |_ n ih =>
   intro i m al s ax;refine aq8 ?_;show exec P gl D c { s with env:=s.env.close bE } _;rw[ax];refine pL c (show exec P gl D c _ _ from step i al) λe f h=>?_;cases e with
   |normal=>grind|exit k=>exact h|ret=>exact h
 exact key _ g rfl gq s l
end
theorem I.arg(t:I):t.enc.arg=true:=by rw[t.yl];rfl
theorem I.a1(t:I):t.enc.a1=t.enc:=by rw[t.yl];rfl
theorem I.OQ(t:I):t.enc.cells=t.cells:=by rw[t.yl];rfl
theorem uU(l:List I)(i:Nat):(dH l)[i]?=(l[i]?).map I.enc:=by rw[oj,List.getElem?_map]
theorem gJ(l:List I):(dH l).length=l.length:=by rw[oj,List.length_map]
theorem wrap64{n:Int}(h : -9223372036854775808<=n)(a:n<9223372036854775808):IntKind.i64.wrap n=n:=by
 simp only[IntKind.wrap,IntKind.signed,IntKind.bits];simp;omega
mutual
def I.eS:I->Prop|.mk n l=>n.length<=M/\l.length<=M/\sv l
def sv:List I->Prop|[]=>True|t::r=>t.eS/\sv r
end
mutual
theorem I.om{γ:fA}:∀(t:I){b off:Nat},fB γ b off t.cells->t.eS
 |.mk n l,b,off,h=>by
  simp only[I.cells,I.name,I.args]at h;cases h with
  |cons _ _ _ _ v h1 g e f=>cases f with
   |cons _ _ _ _ i j k a m =>
    simp only[I.eS];refine⟨by cases e with|str _ h=>exact h,?_⟩;generalize ah:dH l=xs at a;cases a with
    |kn =>
     have:l=[]:=by cases l with|nil=>rfl|cons t r=>simp[dH]at ah
     subst this;simp[sv]
    |list o p cap sz _ c q d =>
     rw[<-ah,gJ]at c;refine⟨c,?_⟩;rw[<-ah]at d;exact OR l d
theorem OR{γ:fA}:∀(l:List I){b off:Nat},fa γ b off 2 (dH l)->sv l
 |[],_,_,_=>by simp[sv]|t::r,b,off,h=>by
  simp only[dH]at h;cases h with
  |cons _ _ _ _ _ h1 a c =>
   simp only[sv];rw[I.OQ]at a;exact⟨t.om a,OR r c⟩
end
variable {l:List I}{v:Value}
theorem avM{γ:fA}(h:dr γ (gT l) v):l.length<=M/\sv l:=by
 unfold gT at h;generalize ah:dH l=xs at h;cases h with
 |kn =>
  have:l=[]:=by cases l with|nil=>rfl|cons t r=>simp[dH]at ah
  subst this;simp[sv]
 |list d e cap sz _ a f c =>
  rw[<-ah]at c;rw[<-ah,gJ]at a;exact⟨a,OR l c⟩
variable {g:bD}
theorem Ad(h:bn g (gT l) v):l.length<=M/\sv l:=by
 unfold gT at h;cases h with
 |pure _ _ h=>exact avM h
theorem I.lj{t:I}(h:bn g t.enc v):t.eS:=by
 obtain⟨n,l⟩:=t;simp only[I.enc]at h;obtain⟨ws,rfl,a,_⟩:=h.oP;cases a with
 |cons _ _ v ws c d=>cases d with
  |cons _ _ i e f j =>
   simp only[I.eS];exact⟨c.IV,Ad f⟩
section
variable {P:Program}{gl:cQ}
theorem aA.assume{f:Nat}{xs:List AV}{r:AV}{B:Prop}(fN:∀γ vs,cS (BU γ) xs vs->B)(h:B->aA P gl f xs r):aA P gl f xs r :=
 λγ w vs c d a=>h (fN γ vs a) γ w vs c d a
end
open Classical in
mutual
def pN:AV->Option I
 |.agg [.str n,.list none 2 l]=>(Cq l).map (.mk n)|.agg [.str n,.aS 2]=>some (.mk n [])|_=>none
def Cq:List AV->Option (List I)
 |[]=>some []|x::r=>match pN x,Cq r with|some t,some l=>some (t::l)|_,_=>none
end
def Ae:AV->Option (List I)
 |.list none 2 l=>Cq l|.aS 2=>some []|_=>none
mutual
theorem yp:∀t:I,pN t.enc=some t
 |.mk n l=>by simp only[I.enc,pN,OS l,Option.map_some]
theorem OS:∀l:List I,Cq (dH l)=some l
 |[]=>by simp only[dH,Cq]|t::r=>by simp only[dH,Cq,yp t,OS r]
end
theorem OT(l:List I):Ae (gT l)=some l:=OS l
def bx(x y:AV):Prop:=∀g v,bn g x v->bn g y v
theorem bx.refl(x:AV):bx x x:=λ_ _ h=>h
theorem bx.aS(sz:Nat):bx (.aS sz) (.list none sz []):=λg v h=>by
 cases h with
 |pure _ _ h=>cases h;exact .pure _ _ (.kn _ _ _ be)
theorem bx.disown(e sz:Nat)(xs:List AV):bx (.list (some e) sz xs) (.list none sz xs):=λg v h=>by
 cases h with
 |pure _ _ h=>cases h|own _ _ _ _ h=>exact .pure _ _ h
inductive yq:List AV->List AV->Prop where
 |nil:yq [] []|cons {x y:AV} {xs ys:List AV}:bx x y->yq xs ys->yq (x::xs) (y::ys)
theorem yq.zF :∀{xs ys:List AV}{vs:List Value},yq xs ys->cS g xs vs->cS g ys vs
 |[],_,_,.nil,h=>h|_::_,_,_,.cons h ax,.cons _ _ _ _ a c=>.cons _ _ _ _ (h _ _ a) (ax.zF c)
variable {xs ys:List AV}
theorem bx.bg(h:yq xs ys):bx (.bg xs) (.bg ys):=λg v a=>by
 cases a with
 |pure _ _ h=>cases h|bg _ ws hw=>exact .bg _ _ (h.zF hw)
theorem bx.agg(h:yq xs ys):bx (.agg xs) (.agg ys):=λg v a=>by
 obtain⟨ws,rfl,c,d⟩:=a.oP;exact .agg _ _ (h.zF c) d
theorem I.res(t:I):t.enc.res=true:=by rw[t.yl];rfl
theorem I.iI(t:I):cY t.enc:=by rw[t.yl];exact λe sz xs h=>by simp at h
section
variable {P:Program}{gl:cQ}{D:bj}
variable {f:Nat}{r:AV}
theorem aA.args(h:aA P gl f ys r)(a:yq xs ys):aA P gl f xs r :=
 λγ w vs c d e=>h γ w vs c d (a.zF e)
theorem aA.gK{hh:az}{iw:List bo}(j:bs P f xs.length hh iw=true)(ah:xs.all AV.arg=true)(k:r.res=true)(m:cY r)
  (he:exec P gl D hh ⟨mR 0 xs,[]⟩ (yg λs=>∃d,tv s.env iw=some d/\bx d r)):aA P gl f xs r:=by
 have n:bB P gl f xs [] λd _=>bx d r:=bB.intro j (pL hh he λe s h=>by
  cases e with
  |exit i=>exact h|normal=>exact h|ret=>exact h)
 intro γ w vs p q u;let g:bD:=⟨γ,λb=>if b<w.heap.size then .outer else .none,λ_=>none⟩
 have c:Rel P gl 0 g (l9 []) tu w :=
  ⟨.nil,rfl,rfl,λt e he=>kE,λid bM y=>by simp[l9]at y,p,λb ae=>by
   by_cases h:b<w.heap.size
   ·exact h
   ·simp[g,h]at ae,q,λid b h=>d6⟩
 have z:∀x∈xs,cY x:=λx A=>E0 (List.all_eq_true.1 ah x A);refine(n.2 g w vs c (u.zX ah g rfl) (λi x v h _=>(z x (List.mem_of_getElem? h)).gG)).mono ?_;rintro e w' ⟨v,G,H,g',rfl,B,a,C,E,_⟩;have F:∀b,b<w.heap.size->g'.bO b=.outer/\w'.heap[b]?=w.heap[b]?/\∀o,g'.γ b o=γ b o:=λb ae=>a.outer b (by simp[g,ae]);refine⟨v,g'.γ,rfl,a.γ,a.size,λb ae=>(F b ae).2,⟨a.os,a.out⟩,C.fI,?_,m.gG⟩;exact(B _ _ E).EZ k _ rfl
end
attribute [go_sem] Int.cast_ofNat_Int Int.toNat_natCast Int.toNat_zero chunk List.headD_cons
structure cR where
 k:Nat
 jk:Option Nat
 dF:Option (Nat×Bool)
 dp:List bq
 ls:List Nat
 cs:List az
 as:List Nat
 ks:List Nat
 op:Nat
 p:Option Nat
 os:List cW
 rs:List az
def pQ(c:Nat):List Nat:=if c<59 then if c<31 then if c<15 then if c<8 then if c<4 then if c<1 then[0]else if c<3 then[0,1]else[0]else if c<6 then if c<5 then[1,0]else[1]else if c<7 then[1,0,0]else[0,1]else if c<11 then if c<9 then[0,0]else if c<10 then[0,1]else[1,0,1]else if c<13 then if c<12 then[]else[1,0,1]else if c<14 then[0,1]else[1,0]else if c<22 then if c<18 then if c<16 then[0]else if c<17 then[0,0]else[1,0,1]else if c<20 then if c<19 then[0]else[1]else if c<21 then[1,0,0]else[0,0]else if c<26 then if c<24 then[1,0]else if c<25 then[0,0,1,1]else[1,0]else if c<28 then if c<27 then[0]else[1,0,0]else if c<29 then[1]else[0,1]else if c<45 then if c<38 then if c<34 then if c<32 then[]else if c<33 then[0,1]else[1,0,0]else if c<36 then if c<35 then[0,0]else[1,1]else if c<37 then[0,1]else[1,0,0]else if c<41 then if c<39 then[0,0]else if c<40 then[1]else[0,0]else if c<43 then if c<42 then[]else[0,1]else if c<44 then[0]else[1,1]else if c<52 then if c<48 then if c<46 then[1,0,0,0]else if c<47 then[]else[1,0,0,0]else if c<50 then if c<49 then[1,0,0,0,0,0]else[1,0,1]else if c<51 then[0,0]else[1,1,0,0]else if c<55 then if c<53 then[0,0]else if c<54 then[0,0,0]else[1]else if c<57 then if c<56 then[0]else[1,0,0]else if c<58 then[1,1,0,0]else[2]else if c<111 then if c<77 then if c<68 then if c<64 then if c<60 then[0,1,1,1]else if c<63 then[0]else[1]else if c<66 then if c<65 then[]else[0,0]else if c<67 then[]else[0,0]else if c<73 then if c<69 then[0]else if c<72 then[]else[0]else if c<75 then if c<74 then[1]else[]else if c<76 then[1]else[]else if c<103 then if c<82 then if c<78 then[0,1,1]else if c<79 then[0]else[]else if c<101 then if c<100 then[0]else[1,0,1]else if c<102 then[1,0,0]else[0]else if c<106 then if c<104 then[1,0,1,1]else if c<105 then[0]else[1,0,0,1]else if c<109 then if c<107 then[1,0,1]else[0]else if c<110 then[1,0,0]else[1,0,1]else if c<129 then if c<118 then if c<114 then if c<112 then[0,1]else if c<113 then[0,0]else[]else if c<116 then if c<115 then[1,0]else[0,1,1]else if c<117 then[0,1]else[1,1,1,0]else if c<125 then if c<119 then[1,1,1,0,1,1,0]else if c<124 then[0,1]else[1,0,0]else if c<127 then if c<126 then[0,0]else[1,0,0,1]else if c<128 then[1,1]else[0]else if c<136 then if c<132 then if c<130 then[1,1,1,0,1,1,0]else if c<131 then[0]else[1,0]else if c<134 then if c<133 then[1]else[]else if c<135 then[0,1,1]else[1,0,0]else if c<139 then if c<137 then[1,1,0]else if c<138 then[1,0,0,0,0]else[1,1,0]else if c<141 then if c<140 then[0,0]else[1,0,0,0]else if c<143 then[1,0,0]else[0,0]
def jH(u:Nat->Int)(d a b c w x y z n:Nat):cW:=if n<51 then if n<25 then if n<12 then if n<6 then if n<3 then if n<1 then .hV d (.t a)else if n<2 then .fz d (.t a) b else .ld d (.t a) b false else if n<4 then .p9 d a else if n<5 then .len d a (.t b)else .hV d (.c (.int .i64 (u a)))else if n<9 then if n<7 then .lV d a (.t b) (.t c)else if n<8 then .ld d (.t a) b true else .bin d 0 .lss (.t a) (.t b)else if n<10 then .bin d 0 .add (.t a) (.c (.int .i64 (u b)))else if n<11 then .on a (.ld d (.t b) c false)else .hV d (.c (.bool false))else if n<18 then if n<15 then if n<13 then .on a (.fz d (.t b) c)else if n<14 then .ext d a b else .eP (some d) a [.t b]else if n<16 then .qa d (.t a)else if n<17 then .pick d (.t a) (.t b) (.c (.bool false))else .on a (.ld d (.t b) c true)else if n<21 then if n<19 then .s3 d (.t a)else if n<20 then .hV d (.c (.aS a))else .eP (some d) a [.t b,.t c]else if n<23 then if n<22 then .pick d (.t a) (.c (.bool true)) (.t b)else .on a (.hL d (.t b))else if n<24 then .iu (some d) a [.t b]else .app d a (.t b) c w else if n<38 then if n<31 then if n<28 then if n<26 then .lit d a [.t b]else if n<27 then .hL d (.t a)else .iu (some d) a [.t b,.t c]else if n<29 then .alloc d [.str [],.aS a]else if n<30 then .bin d 0 .eql (.t a) (.c (.int .i64 (u b)))else .bin d 0 .neq (.t a) (.c (.int .i64 (u b)))else if n<34 then if n<32 then .hV d (.c (.bool true))else if n<33 then .bin d 0 .gtr (.t a) (.c (.int .i64 (u b)))else .bin d a .neq (.t b) (.t c)else if n<36 then if n<35 then .bin d 0 .add (.t a) (.t b)else .sZ d a b else if n<37 then .bin d 0 .sub (.t a) (.c (.int .i64 (u b)))else .bin d a .eql (.t b) (.t c)else if n<44 then if n<41 then if n<39 then .idx d (.t a) (.t b)else if n<40 then .eP (some d) a []else .bin d 0 .sub (.t a) (.t b)else if n<42 then .vz d else if n<43 then .bin d 0 .lss (.t a) (.c (.int .i64 (u b)))else .s0 d (.t a)else if n<47 then if n<45 then .alloc d [.str [],.aS a,.aS b]else if n<46 then .iu (some d) a [.t b,.t c,.t w]else .hV d (.c (.int .i64 (-1)))else if n<49 then if n<48 then .eP (some d) a [.t b,.t c,.t w]else .iu (some d) a [.t b,.t c,.t w,.t x,.t y]else if n<50 then .iu (some d) a [.t b,.c (.int .u8 (u c))]else .bin d 0 .gtr (.t a) (.t b)else if n<118 then if n<105 then if n<57 then if n<54 then if n<52 then .r7 d a b false (.t c) (.t w)else if n<53 then .lY (some d) (.t a) [.t b]else .lY (some d) (.t a) [.t b,.t c]else if n<55 then .alloc d [.bool false,.str [],.aS a]else if n<56 then .conv d .i64 (.t a)else .st a (.t b) (.t c)else if n<102 then if n<100 then .on a (.st b (.t c) (.t w))else if n<101 then .eP (some d) a [.t b,.c (.int .i64 (u c))]else .qb d a (.t b) none (some (.t c))else if n<103 then .r6 d (.t a)else if n<104 then .on a (.je d (.t b) c w)else .nU d (.t a)else if n<111 then if n<108 then if n<106 then .look [a] d (.t b) (.t c) (.agg [.str [],.aS w]) true else if n<107 then .lV d a (.t b) (.c (.int .i64 (u c)))else .oK d (.t a)else if n<109 then .conv d .u64 (.t a)else if n<110 then .mC (some d) a [.t b,.t c]else .iu (some d) a [.t b,.f c]else if n<114 then if n<112 then .bin d 0 .shr (.t a) (.c (.int .u64 (u b)))else if n<113 then .bin d 0 .leq (.t a) (.t b)else .hV d (.c .k5)else if n<116 then if n<115 then .pq d a [.t b]else .je d (.t a) b c else if n<117 then .idx d (.t a) (.c (.int .i64 (u b)))else .build d [.str [],.aS a] [(b,c,.t w)]else if n<131 then if n<124 then if n<121 then if n<119 then .build d [.str [],.aS a] [(b,c,.t w),(x,y,.t z)]else if n<120 then .bin d 0 .leq (.t a) (.c (.int .u8 (u b)))else .bin d 0 .leq (.t a) (.c (.int .i64 (u b)))else if n<122 then .bin d 0 .geq (.t a) (.c (.int .u8 (u b)))else if n<123 then .bin d 0 .geq (.t a) (.c (.int .i64 (u b)))else .bin d 0 .eql (.t a) (.c (.int .u8 (u b)))else if n<127 then if n<125 then .qb d a (.t b) (some (.t c)) none else if n<126 then .r5 d true (.t a) (.t b)else .look [a] d (.t b) (.t c) (.int .i64 (u w)) false else if n<129 then if n<128 then .nV d a b []else .r8 d false (.t a)else if n<130 then .build d [.str [],.str [],.aS a] [(b,c,.t w),(x,y,.t z)]else .box d (.t a)else if n<137 then if n<134 then if n<132 then .bin d 0 .mul (.c (.int .i64 (u a))) (.t b)else if n<133 then .kc d [.aS a]else .alloc d [.str [],.str [],.bool false]else if n<135 then .r3 d (.t a) b c else if n<136 then .pq d a [.t b,.t c]else .nV d a b [.t c]else if n<140 then if n<138 then .iu (some d) a [.t b,.t c,.t w,.t x]else if n<139 then .iu (some d) a [.c (.aS b),.t c]else .bin d 0 .geq (.t a) (.t b)else if n<142 then if n<141 then .qc [a] (.t b) (.t c) (.t w)else .qc [a] (.t b) (.t c) (.c (.bool true))else if n<143 then .on a (.ir (.t b) c)else .ir (.t a) b
def fG(s:cR)(f:az->az):cR:=match s.cs with|y::r=>{ s with cs:=f y::r }|_=>s
def JE(g:Nat->Nat->List Nat)(s:cR)(a b c w n:Nat):cR:=if n<71 then if n<65 then if n<62 then if n<60 then fG s (.ta a b c w)else if n<61 then{ s with dF:=some (a,true) }else{ s with dF:=some (a,false) }else if n<63 then{ s with jk:=some a }else if n<64 then{ s with k:=a }else{ s with dp:=[],cs:=.aa s.dp.reverse []::s.cs }else if n<68 then if n<66 then{ s with dp:=[],cs:=.aa s.dp.reverse (g a b)::s.cs }else if n<67 then{ s with dp:=[],ls:=[],cs:=.aa s.dp.reverse s.ls.reverse::s.cs }else{ s with dp:=[],ls:=[],cs:=.aa s.dp.reverse (s.ls.reverse++g a b)::s.cs }else if n<69 then{ s with ls:=a::s.ls }else if n<70 then(match s.cs with|y::x::r=>{ s with cs:=.seq x y::r }|_=>s)else{ s with cs:=.ret::s.cs }else if n<77 then if n<74 then if n<72 then{ s with cs:=.skip::s.cs }else if n<73 then(match s.cs with|y::x::r=>{ s with cs:=.cond (.t a) x y::r }|_=>s)else fG s (.block a)else if n<75 then fG s .loop else if n<76 then{ s with cs:=.exit a::s.cs }else fG { s with ls:=[] } (.drop s.ls.reverse)else if n<80 then if n<78 then fG s (.q6 a b c)else if n<79 then fG s (.kill a)else{ s with cs:=.bad::s.cs }else if n<81 then(match s.rs with|x::r=>{ s with rs:=r,cs:=x::s.cs }|_=>s)else if n<82 then(match s.os with|x::r=>{ s with os:=r,dF:=none,dp:=⟨s.dF,x⟩::s.dp }|_=>s)else{ s with dp:=[],cs:=.aa s.dp.reverse [a]::s.cs }
def qy(g:Nat->Nat->List Nat)(u:Nat->Int)(s:cR)(n:Nat)(as:List Nat):cR :=
 if n<58\/100<=n then
  if n<56\/100<=n/\n<140 then match s.jk with
   |some d=>{ s with jk:=none,dF:=none,dp:=⟨s.dF,jH u d (as.getD 0 0) (as.getD 1 0) (as.getD 2 0) (as.getD 3 0) (as.getD 4 0) (as.getD 5 0) (as.getD 6 0) n⟩::s.dp }|none=>{ s with k:=s.k+1,dF:=none,dp:=⟨s.dF,jH u (s.k+1) (as.getD 0 0) (as.getD 1 0) (as.getD 2 0) (as.getD 3 0) (as.getD 4 0) (as.getD 5 0) (as.getD 6 0) n⟩::s.dp }
  else{ s with dF:=none,dp:=⟨s.dF,jH u 0 (as.getD 0 0) (as.getD 1 0) (as.getD 2 0) (as.getD 3 0) (as.getD 4 0) (as.getD 5 0) (as.getD 6 0) n⟩::s.dp }
 else JE g s (as.getD 0 0) (as.getD 1 0) (as.getD 2 0) (as.getD 3 0) n
def qz(g:Nat->Nat->List Nat)(u:Nat->Int)(s:cR)(n:Nat):List Nat->cR
 |[]=>qy g u { s with ks:=[] } s.op (s.as++[n])|k::ks=>{ s with ks:=k::ks,as:=s.as++[n] }
def qA(g:Nat->Nat->List Nat)(u:Nat->Int)(s:cR)(c:Nat):List Nat->cR
 |[]=>qy g u { s with ks:=[] } c []|k::ks=>{ s with op:=c,as:=[],ks:=k::ks }
def JF(c:Nat):Nat:=if c<40 then(if c=33 then 5 else if c=35 then 33 else 52)else c-40
def LC(g:Nat->Nat->List Nat)(u:Nat->Int)(s:cR)(c:Nat):cR :=
 match s.ks with
 |[]=>qA g u s c (pQ c)|k::ks=>if k=2 then qA g u s (100+c) (pQ (100+c))else match s.p with
  |none=>if 70<=c then{ s with p:=some (c-70) }else qz g u s (if k=0 then(if c<35 then s.k-c else c-35)else c) ks|some p=>qz g u { s with p:=none } (p*83+c) ks
def dec(g:Nat->Nat->List Nat)(u:Nat->Int)(l:List Char)(os:List cW)(rs:List az):az :=
 match(l.foldl (λs c=>LC g u s (JF c.toNat)) ⟨0,none,none,[],[],[],[],[],0,none,os,rs⟩).cs with
 |[x]=>x|_=>.bad
abbrev U(s:String)(os:List cW:=[]){l:List Char}{c:(Nat->Nat->List Nat)->(Nat->Int)->az}(_:aKE l=s:=by rfl)(_:∀g u,dec g u l os []=c g u:=by intros;cbv):az:=c rg Nat.cast
abbrev cU(s:String)(x:az)(os:List cW:=[]){l:List Char}{c:(Nat->Nat->List Nat)->(Nat->Int)->az->az}(_:aKE l=s:=by rfl)(_:∀g u x,dec g u l os [x]=c g u x:=by intros;cbv):az:=c rg Nat.cast x
abbrev aZ(s:String)(x y:az)(os:List cW:=[]){l:List Char}{c:(Nat->Nat->List Nat)->(Nat->Int)->az->az->az}(_:aKE l=s:=by rfl)(_:∀g u x y,dec g u l os [x,y]=c g u x y:=by intros;cbv):az:=c rg Nat.cast x y
abbrev cn(s:String)(x y z:az)(os:List cW:=[]){l:List Char}{c:(Nat->Nat->List Nat)->(Nat->Int)->az->az->az->az}(_:aKE l=s:=by rfl)(_:∀g u x y z,dec g u l os [x,y,z]=c g u x y z:=by intros;cbv):az:=c rg Nat.cast x y z
abbrev ak:=List UInt8
variable {α:Type}{l:List α}{i:Nat}{x:α}
theorem JS(h:l[i]?=some x):l.take (i+1)=l.take i++[x]:=by rw[List.take_add_one,h];rfl
variable {p:α->Bool}
theorem sx(h:l[i]?=some x):(l.take (i+1)).all p=((l.take i).all p&&p x):=by rw[JS h];simp
theorem An(h:l[i]?=some x)(ar:p x=false):l.all p=false:=by grind
def hs(c:UInt8)(l:List (Nat×Nat)):Bool:=l.any λp=>decide (p.1<=c.toNat)&&decide (c.toNat<=p.2)
def nE(s:ak)(a b c:Nat×Nat):Bool:=match s with
 |[]=>false|x::_=>decide (s.length<=16)&&hs x [a]&&s.all λy=>hs y [a,b,c]
def dM(s:ak):Bool:=nE s (97,122) (48,57) (45,45)&&!(s==[105,102])&&!(s==[97,110,100])&&!(s==[110,111,116])
def eg(s:ak):Bool:=nE s (65,90) (97,122) (48,57)
def eZ(c:UInt8):Bool:=decide (48<=c.toNat)&&decide (c.toNat<=57)
def ig:ak->Nat->Nat|[],n=>n|c::r,n=>ig r (10*n+(c.toNat-48))
def fw(s:ak):Option Nat:=match s with
 |[]=>none|x::r=>if s.length<=4/\¬(x=48/\r≠[])/\s.all eZ=true then some (ig s 0)else none
def ix(s:ak):AV:=.bg [.int .i64 ((fw s).getD 0:Nat),.bool (fw s).isSome]
theorem afu:∀(s:ak)(n:Nat),s.all eZ=true->ig s n+1<=(n+1)*10 ^ s.length
 |[],n,_=>by simp[ig]|c::r,n,h=>by
  simp only[List.all_cons,aKC]at h;have a:=afu r (10*n+(c.toNat-48)) h.2;have d:c.toNat<=57:=by have:=h.1;simp[eZ]at this;exact this.2
  simp only[ig,aKD,Nat.pow_succ];refine Nat.le_trans a ?_;rw[show(n+1)*(10 ^ r.length*10)=(10*(n+1))*10 ^ r.length by rw[Nat.mul_comm (10 ^ r.length),<-Nat.mul_assoc,Nat.mul_comm (n+1)]];exact Nat.mul_le_mul_right _ am
theorem PO:∀(s:ak)(c:UInt8)(n:Nat),ig (s++[c]) n=10*ig s n+(c.toNat-48)
 |[],_,_=>rfl|_::r,c,n=>by simp only[List.cons_append,ig];exact PO r c _
variable {s:ak}
theorem PQ(hd:s.all eZ=true)(a:s.length<=4):ig s 0<=9999:=by
 have h:=afu s 0 hd;have:10 ^ s.length<=10 ^ 4:=Nat.pow_le_pow_right dw a;omega
theorem CK(h:fw s=none):ix s=.bg [.int .i64 0,.bool false]:=by simp[ix,h]
theorem CL{n:Nat}(h:fw s=some n):ix s=.bg [.int .i64 n,.bool true]:=by simp[ix,h]
def h2(t:I):Nat×Nat×Nat×ak :=
 if t.args.length>0 then(3,0,t.args.length,t.name)
 else match fw t.name with
  |some n=>(0,n,0,[])|none=>if eg t.name then(2,0,0,t.name)else(1,0,0,t.name)
def yz(k:Nat×Nat×Nat×ak):AV:=.agg [.int .i64 k.1,.int .i64 k.2.1,.int .i64 k.2.2.1,.str k.2.2.2]
def gg(a b:Nat):Int:=if a<b then -1 else if b<a then 1 else 0
mutual
def b6:I->I->Int
 |.mk n a,.mk m b =>
  let x:=h2 (.mk n a);let y:=h2 (.mk m b)
  if x=y then fh a b
  else if x.1≠y.1 then gg x.1 y.1
  else if x.2.1≠y.2.1 then gg x.2.1 y.2.1
  else if x.2.2.1≠y.2.2.1 then gg x.2.2.1 y.2.2.1
  else du x.2.2.2 y.2.2.2
def fh:List I->List I->Int
 |[],[]=>0|[],_::_=>-1|_::_,[]=>1|s::r,t::u=>let c:=b6 s t;if c=0 then fh r u else c
end
theorem afv(t u:I):b6 t u=if h2 t=h2 u then fh t.args u.args
  else if(h2 t).1≠(h2 u).1 then gg (h2 t).1 (h2 u).1
  else if(h2 t).2.1≠(h2 u).2.1 then gg (h2 t).2.1 (h2 u).2.1
  else if(h2 t).2.2.1≠(h2 u).2.2.1 then gg (h2 t).2.2.1 (h2 u).2.2.1
  else du (h2 t).2.2.2 (h2 u).2.2.2:=by
 obtain⟨n,a⟩:=t;obtain⟨m,b⟩:=u;simp only[b6,I.args]
theorem afw(l m:List I)(h:l.length=0\/m.length=0):fh l m=gg l.length m.length:=by
 cases l<;>cases m<;>simp_all[fh,gg]
variable {l m:List I}{t u:I}
theorem afx(a:l[i]?=some t)(c:m[i]?=some u):fh (l.drop i) (m.drop i)=if b6 t u=0 then fh (l.drop (i+1)) (m.drop (i+1))else b6 t u:=by
 have d:=aKF (aKB.1 a).1;have e:=aKF (aKB.1 c).1;rw[(aKB.1 a).2]at d;rw[(aKB.1 c).2]at e;rw[d,e];simp only[fh]
theorem afy(l m:List α)(i:Nat)(c:i<=l.length)(d:i<=m.length):gg (l.drop i).length (m.drop i).length=gg l.length m.length:=by
 simp only[gg,List.length_drop];by_cases a:l.length<m.length
 ·rw[if_pos a,if_pos am]
 ·grind
mutual
def hi:I->I->Bool|.mk n a,.mk m b=>n==m&&gD a b
def gD:List I->List I->Bool|[],[]=>true|s::r,t::u=>hi s t&&gD r u|_,_=>false
end
mutual
theorem JT:∀(t u:I),hi t u=true↔t=u
 |.mk n a,.mk m b=>by simp only[hi,aKC,beq_iff_eq,FN a b,I.mk.injEq]
theorem FN:∀(l m:List I),gD l m=true↔l=m
 |[],[]=>by simp[gD]|[],_::_=>by simp[gD]|_::_,[]=>by simp[gD]|s::r,t::u=>by simp only[gD,aKC,JT s t,FN r u,List.cons.injEq]
end
theorem aAh(h:l.length≠m.length):gD l m=false:=by
 rw[Bool.eq_false_iff];intro a;rw[FN]at a;exact h (by rw[a])
theorem aAi(a:l[i]?=some t)(c:m[i]?=some u):gD (l.drop i) (m.drop i)=(hi t u&&gD (l.drop (i+1)) (m.drop (i+1))):=by
 have d:=aKF (aKB.1 a).1;have e:=aKF (aKB.1 c).1;rw[(aKB.1 a).2]at d;rw[(aKB.1 c).2]at e;rw[d,e];simp only[gD]
def cD:Nat->I->Bool->Bool
 |0,_,_=>false|n+1,t,v=>decide (t.args.length<=4)&&(if t.args.length=0 then dM t.name||(fw t.name).isSome||(v&&eg t.name)else t.args.all (λu=>cD n u v)&&dM t.name)
def lk(s:ak):Nat:=(fw s).getD 0
def jm(t:I):Nat:=if t.args.length>0 then 3 else if(fw t.name).isSome then 0 else if eg t.name then 2 else 1
theorem afO(t:I):h2 t=(jm t,if jm t=0 then lk t.name else 0,t.args.length,if jm t=0 then[]else t.name):=by
 unfold h2 jm lk;by_cases h:t.args.length>0
 ·simp[h]
 ·grind
theorem P0(h:jm t≠3):t.args=[]:=by
 unfold jm at h;by_cases a:t.args.length>0
 ·simp[a]at h
 ·exact List.eq_nil_of_length_eq_zero am
theorem mY:∀{a b:ak},du a b=0↔a=b
 |[],[]=>by simp[du]|[],_::_=>by simp[du]|_::_,[]=>by simp[du]|x::r,y::t=>by
  simp only[du];by_cases h:x=y
  ·simp_all[mY]
  ·simp only[h,if_false];split<;>simp[h]
theorem aAM(t u:I):b6 t u=if jm t≠jm u then gg (jm t) (jm u)
  else if jm t=0 then gg (lk t.name) (lk u.name)
  else if t.args.length≠u.args.length then gg t.args.length u.args.length
  else if du t.name u.name≠0 then du t.name u.name else fh t.args u.args:=by
 rw[afv,afO t,afO u];generalize n:jm t=c;generalize hd:jm u=d;by_cases j:c=d
 ·subst j;by_cases e:c=0
  ·subst e;have aG:=P0 (t:=t) am;have ae:=P0 (t:=u) am;by_cases a:lk t.name=lk u.name
   ·simp[aG,ae,a,fh,gg]
   ·simp[aG,ae,a]
  ·by_cases a:t.args.length=u.args.length
   ·by_cases f:t.name=u.name
    ·simp[e,a,f,mY.2 rfl]
    ·have k:du t.name u.name≠0:=λh=>f (mY.1 h);simp[e,a,f,k]
   ·simp[e,a]
 ·simp[j]
def tM(c d v w wQ nF:Nat)(s l:Int):Int:=if c≠d then gg c d else if c=0 then gg v w else if wQ≠nF then gg wQ nF else if s≠0 then s else l
theorem CM(t u:I):b6 t u=tM (jm t) (jm u) (lk t.name) (lk u.name) t.args.length u.args.length (du t.name u.name) (fh t.args u.args):=by rw[aAM];rfl
theorem CN:∀(a b:ak),du a b=if Op.bytesLess a b=true then -1 else if Op.bytesLess b a=true then 1 else 0
 |[],[]=>by simp[du,Op.bytesLess]|[],_::_=>by simp[du,Op.bytesLess]|_::_,[]=>by simp[du,Op.bytesLess]|x::r,y::t=>by
  simp only[du,Op.bytesLess];by_cases h:x=y
  ·subst h;simp[CN r t]
  ·grind
def lH(l:List I)(t:I):Nat->Nat->Nat->Nat
 |0,bc,_=>bc|f+1,bc,al=>if bc<al then(match l[(bc+al) / 2]? with
  |some x=>if b6 x t<0 then lH l t f ((bc+al) / 2+1) al else lH l t f bc ((bc+al) / 2)|none=>bc)else bc
variable {bc al:Nat}
theorem yB(l:List I)(t:I)(h:al<=bc):∀f,lH l t f bc al=bc
 |0=>rfl|f+1=>by simp only[lH,if_neg (show ¬bc<al by omega)]
theorem yC(l:List I)(t:I):∀f bc al,al-bc<=f->lH l t (f+1) bc al=lH l t f bc al
 |0,bc,al,h=>by rw[yB l t am,yB l t am]|f+1,bc,al,h=>by
  by_cases a:bc<al
  ·conv=>lhs;unfold lH
   conv=>rhs;unfold lH
   simp only[if_pos a];cases l[(bc+al) / 2]? with
   |none=>rfl|some x =>
    simp only;split
    ·exact yC l t f _ _ am
    ·exact yC l t f _ _ am
  ·rw[yB l t am,yB l t am]
theorem JZ(l:List I)(t:I){f:Nat}(h:al-bc<=f)(a:bc<al){x:I}(ah:l[(bc+al) / 2]?=some x) :
  lH l t f bc al=if b6 x t<0 then lH l t f ((bc+al) / 2+1) al else lH l t f bc ((bc+al) / 2):=by
 cases f with
 |zero=>omega|succ f =>
  conv=>lhs;unfold lH
  simp only[if_pos a,ah];rw[yC l t f _ _ am,yC l t f _ _ am]
def gh(l:List I)(t:I):Nat:=lH l t l.length 0 l.length
def j4(l:List I)(t:I):List I:=match l[gh l t]? with
 |some x=>if b6 x t=0 then l else l.take (gh l t)++t::l.drop (gh l t)|none=>l.take (gh l t)++t::l.drop (gh l t)
theorem aA0(l:List I)(t:I):(j4 l t).length<=l.length+1:=by
 unfold j4;have h:∀n,(l.take n++t::l.drop n).length<=l.length+1:=λn=>by simp only[List.length_append,aKD,List.length_take,List.length_drop];omega
 split
 ·split
  ·omega
  ·exact h _
 ·exact h _
def lI(l:List I)(r:List I):List I:=r.foldl j4 l
theorem P7:∀(r l:List I),(lI l r).length<=l.length+r.length
 |[],l=>by simp[lI]|t::r,l=>by
  have h:=P7 r (j4 l t);have a:=aA0 l t;simp only[lI,List.foldl_cons,aKD]at h ⊢;omega
end AM
