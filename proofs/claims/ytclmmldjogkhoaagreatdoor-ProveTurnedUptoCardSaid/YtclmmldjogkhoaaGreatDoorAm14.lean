/- An abstract machine, and what of the given program it does, part 15. Conditions: none. -/
import Derived.Test.YtclmmldjogkhoaaGreatDoorAm13
import Derived.Attr
set_option linter.unusedVariables false
namespace AM
open List renaming getElem?_eq_some_iff -> I9,length_cons -> LW,drop_eq_getElem_cons -> TH
open Bool renaming and_eq_true -> Ja
open Go
def rg(bh ak:Nat):List Nat:=List.range' bh (ak+1-bh)
theorem anE(bh ak k:Nat):(rg bh ak).contains k=(decide (bh<=k)&&decide (k<=ak)):=by
 rw[Bool.eq_iff_iff];simp only[rg,List.contains_iff_mem,List.mem_range'_1,Ja,decide_eq_true_eq];omega
theorem Uq(a b:List Nat)(k:Nat):(a++b).contains k=(a.contains k||b.contains k):=by grind
def N(l:Env):Env:=l.foldr (fun p e=>Env.ins e p.1 p.2) []
theorem DH(l:Env)(t:Nat)(e:cW):Env.ins (N l) t e=N ((t,e)::l):=rfl
theorem A9:∀l:Env,(N l).Pairwise fun p q=>p.1<q.1
 |[]=>.nil|p::l=>Env.dQ.ins (A9 l) p.1 p.2
theorem MB:∀{a b:Env},a.dQ->b.dQ->(∀t,a.get t=b.get t)->a=b
 |[],[],_,_,_=>rfl|[],(k,x)::r,_,_,h=>by have:=h k;simp[Env.get]at this|(k,x)::r,[],_,_,h=>by have:=h k;simp[Env.get]at this|(k,x)::r,(k',i)::r',h1,U,h=>by
  have c:=List.pairwise_cons.1 h1;have d:=List.pairwise_cons.1 U;have hk:k=k':=by
   rcases Nat.lt_trichotomy k k' with j|he|j
   ·have:=h k;simp only[Env.get,if_true,show k≠k' by omega,if_false]at this;have hm:=Env.se (e:=r') this.symm;have:=d.1 _ hm;simp at this;omega
   ·exact he
   ·have:=h k';simp only[Env.get,if_true,show k'≠k by omega,if_false]at this;have hm:=Env.se (e:=r) this;have:=c.1 _ hm;simp at this;omega
  subst hk;have ah:x=i:=by have:=h k;simpa[Env.get]using this
  subst ah;congr 1
  refine MB c.2 d.2 fun t=>?_;have:=h t;simp only[Env.get]at this;by_cases g:t=k
  ·subst g;have l:Env.get r t=none:=by
    cases f:Env.get r t with
    |none=>rfl|some y=>have:=c.1 _ (Env.se f);simp at this
   have m:Env.get r' t=none:=by
    cases f:Env.get r' t with
    |none=>rfl|some y=>have:=d.1 _ (Env.se f);simp at this
   rw[l,m]
  ·simpa[g]using this
theorem pM:∀(l:Env)(t:Nat),Env.get (N l) t=Env.get l t
 |[],_=>rfl|(k,e)::l,t=>by
  show Env.get (Env.ins (N l) k e) t=_;rw[Env.hp,pM l t];rfl
def vk:Env->List Nat->Env
 |[],_=>[]|(k,.a _ _)::r,bu=>vk r (k::bu)|(k,e)::r,bu=>if bu.contains k then vk r bu else(k,e)::vk r bu
def vl(bu:List Nat)(u:Nat):Option cW->Option cW
 |some (.a _ _)=>none|some x=>if bu.contains u then none else some x|none=>none
theorem vm{bu:List Nat}{u:Nat}(h:bu.contains u=true)(o:Option cW):vl bu u o=none:=by
 cases o with
 |none=>rfl|some x=>cases x<;>simp only[vl,h,if_true]
theorem Ba:∀(l:Env)(bu:List Nat)(u:Nat),Env.get (vk l bu) u=vl bu u (Env.get l u)
 |[],_,_=>rfl|(k,.a x y)::r,bu,u=>by
  simp only[vk,Ba r,Env.get];by_cases h:u=k
  ·subst h;rw[vm (by simp),if_pos rfl];rfl
  ·rw[if_neg h];have:(k::bu).contains u=bu.contains u:=by simp[h]
   cases Env.get r u with
   |none=>rfl|some x=>cases x<;>simp only[vl,this]
 |(k,.v x)::r,bu,u=>by
  simp only[vk,Env.get];by_cases hk:bu.contains k=true
  ·rw[if_pos hk,Ba r];by_cases h:u=k
   ·subst h;rw[vm hk,vm hk]
   ·rw[if_neg h]
  ·rw[if_neg hk];simp only[Env.get,Ba r];by_cases h:u=k
   ·subst h;rw[if_pos rfl,if_pos rfl];simp only[vl];rw[if_neg hk]
   ·rw[if_neg h,if_neg h]
 |(k,.b x)::r,bu,u=>by
  simp only[vk,Env.get];by_cases hk:bu.contains k=true
  ·rw[if_pos hk,Ba r];by_cases h:u=k
   ·subst h;rw[vm hk,vm hk]
   ·rw[if_neg h]
  ·rw[if_neg hk];simp only[Env.get,Ba r];by_cases h:u=k
   ·subst h;rw[if_pos rfl,if_pos rfl];simp only[vl];rw[if_neg hk]
   ·rw[if_neg h,if_neg h]
theorem Ur:∀{e:Env}(_:e.dQ)(bu:List Nat)(u:Nat),Env.get (e.close bu) u=vl bu u (e.get u)
 |[],_,_,_=>rfl|(k,x)::r,az,bu,u=>by
  have c:=List.pairwise_cons.1 az;have ih:=Ur c.2 bu u;have d:u=k->Env.get r u=none:=fun h=>by
   cases f:Env.get r u with
   |none=>rfl|some y=>have:=c.1 _ (Env.se f);simp at this;omega
  cases x with
  |a p q =>
   simp only[Env.close,Env.get,ih];by_cases h:u=k
   ·rw[d h,if_pos h];rfl
   ·rw[if_neg h]
  |v y =>
   simp only[Env.close,Env.get];by_cases hk:bu.contains k=true
   ·rw[if_pos hk,ih];by_cases h:u=k
    ·subst h;rw[vm hk,vm hk]
    ·rw[if_neg h]
   ·rw[if_neg hk];simp only[Env.get,ih];by_cases h:u=k
    ·subst h;rw[if_pos rfl,if_pos rfl];simp only[vl];rw[if_neg hk]
    ·rw[if_neg h,if_neg h]
  |b y =>
   simp only[Env.close,Env.get];by_cases hk:bu.contains k=true
   ·rw[if_pos hk,ih];by_cases h:u=k
    ·subst h;rw[vm hk,vm hk]
    ·rw[if_neg h]
   ·rw[if_neg hk];simp only[Env.get,ih];by_cases h:u=k
    ·subst h;rw[if_pos rfl,if_pos rfl];simp only[vl];rw[if_neg hk]
    ·rw[if_neg h,if_neg h]
theorem anF(l:Env)(bu:List Nat):(N l).close bu=N (vk l bu) :=
 MB (Env.dQ.close (A9 l) bu) (A9 _) fun t=>by rw[Ur (A9 l),pM,pM,Ba]
theorem anG{l:Env}(h:l.dQ):N l=l:=MB (A9 l) h fun t=>pM l t
theorem anH(xs:List AV):N (l5 0 xs)=l5 0 xs:=anG (LZ xs 0)
def xf:Env->List Nat->Nat->Bool
 |[],_,_=>false|(k,e)::r,bu,d=>(!bu.contains k&&(match e with|.a u _=>u==d|_=>false))||xf r (k::bu) d
theorem anI{e:Env}(az:e.dQ)(d:Nat):lT e d=true↔∃k off,e.get k=some (.a d off):=by
 simp only[lT,List.any_eq_true];constructor
 ·rintro⟨⟨k,x⟩,hm,ah⟩;cases x with
  |a u off=>simp at ah;subst ah;exact⟨k,off,Env.get_of_mem az hm⟩|v y=>simp at ah|b y=>simp at ah
 ·rintro⟨k,off,h⟩;exact⟨(k,.a d off),Env.se h,by simp⟩
theorem Us:∀(l:Env)(bu:List Nat)(d:Nat),xf l bu d=true↔∃k off,bu.contains k=false/\Env.get l k=some (.a d off)
 |[],bu,d=>by simp[xf,Env.get]|(k,e)::r,bu,d=>by
  simp only[xf,Bool.or_eq_true,Ja,Bool.not_eq_true',Us r,Env.get];constructor
  ·grind
  ·grind
theorem Ut(l:Env)(d:Nat):lT (N l) d=xf l [] d:=by
 rw[Bool.eq_iff_iff,anI (A9 l),Us];constructor
 ·rintro⟨k,off,h⟩;exact⟨k,off,rfl,by rw[<-pM];exact h⟩
 ·rintro⟨k,off,_,h⟩;exact⟨k,off,by rw[pM];exact h⟩
theorem cj(l:Env):N l=l.foldr (fun p e=>Env.ins e p.1 p.2) []:=rfl
attribute [irreducible] N
structure aM{α:Sort _}(x:α):Type where
 mk ::
def b7(o:Option an)(K:an->Prop)(_:aM K):Prop:=match o with|some s=>K s|none=>False
def bK{α:Type}(o:Option α)(K:α->Prop)(_:aM K):Prop:=match o with|some x=>K x|none=>False
def MC(o:Option Bool)(K:Bool->Prop)(_:aM K):Prop:=match o with|some b=>K b|none=>False
def MD(o:Option AV)(K:Bool->Prop)(_:aM K):Prop:=match o with|some (.bool b)=>K b|_=>False
def iC(b:Bool)(K:Bool->Prop)(_:aM K):Prop:=K b
theorem anJ{s:an}{K:an->Prop}{t:aM K}:b7 (some s) K t=K s:=id rfl
theorem ec{α:Type}{x:α}{K:α->Prop}{t:aM K}:bK (some x) K t=K x:=id rfl
variable {b:Bool}{K:Bool->Prop}{t:aM K}
theorem anK :MC (some b) K t=iC b K ⟨⟩:=id rfl
theorem anL :MD (some (.bool b)) K t=iC b K ⟨⟩:=id rfl
theorem Uu :iC true K t=K true:=id rfl
theorem Uv :iC false K t=K false:=id rfl
section
variable (P:Program)(gl:cp)(D:bc)
def jx(c:aG)(s:an)(Q:kn->an->Prop)(_:aM Q):Prop:=exec P gl D c s Q
def vn(dc:List bk)(s:an)(K:an->Prop)(_:aM K):Prop:=jL P gl D dc s K
def bV(s:an)(K:an->Prop)(_:aM K)(o:cz):Prop:=c8 P gl D s K o
end
section
variable {P:Program}{gl:cp}{D:bc}
variable {Q:kn->an->Prop}
theorem anM{c:aG}{xs:List AV}{H:List ax} :exec P gl D c ⟨l5 0 xs,H⟩ Q=jx P gl D c ⟨N (l5 0 xs),H⟩ Q ⟨⟩:=by rw[anH];rfl
variable {s:an}{t:aM Q}
theorem anN :jx P gl D .skip s Q t=Q .normal s:=id rfl
theorem anO{dc:List bk}{a:List Nat} :jx P gl D (.ab dc a) s Q t=vn P gl D dc s (fun s'=>Q .normal { s' with env:=s'.env.close a }) ⟨⟩:=id rfl
variable {x y:aG}
theorem anP :jx P gl D (.seq x y) s Q t=jx P gl D x s (fun e s'=>match e with|.normal=>jx P gl D y s' Q ⟨⟩|e=>Q e s') ⟨⟩:=id rfl
variable {c:aI}
theorem anQ :jx P gl D (.cond c x y) s Q t=MD (bg gl s.env c) (fun b=>match b with|true=>jx P gl D x s Q ⟨⟩|false=>jx P gl D y s Q ⟨⟩) ⟨⟩:=by
 simp only[jx,exec,MD];cases bg gl s.env c with
 |none=>rfl|some v=>cases v with
  |bool b=>cases b<;>simp|_=>rfl
variable {i:Nat}
theorem anR :jx P gl D (.block i x) s Q t=jx P gl D x s (fun e s=>match e with|.exit j=>if j=i then Q .normal s else Q (.exit j) s|e=>Q e s) ⟨⟩:=id rfl
theorem anS :jx P gl D (.exit i) s Q t=Q (.exit i) s:=id rfl
theorem anT :jx P gl D .ret s Q t=Q .ret s:=id rfl
variable {u:Nat}
theorem anU :jx P gl D (.kill u x) s Q t=jx P gl D x (AF s u) Q ⟨⟩:=id rfl
variable {e sz:Nat}
theorem anV :jx P gl D (.qi u e sz x) s Q t=b7 (AA s u e sz) (fun s'=>jx P gl D x s' Q ⟨⟩) ⟨⟩:=id rfl
variable {off:Nat}
theorem anW :jx P gl D (.sc u off e sz x) s Q t=b7 (AB s u off e sz) (fun s'=>jx P gl D x s' Q ⟨⟩) ⟨⟩:=id rfl
variable {K:an->Prop}{t:aM K}
theorem anX :vn P gl D [] s K t=K s:=id rfl
variable {o:cz}{r:List bk}
theorem anY :vn P gl D (⟨none,o⟩::r) s K t=bV P gl D s (fun s'=>vn P gl D r s' K ⟨⟩) ⟨⟩ o:=id rfl
theorem anZ{w:Bool} :vn P gl D (⟨some (u,w),o⟩::r) s K t=MC (l1 s.env (some (u,w))) (fun b=>match b with
  |true=>bV P gl D s (fun a=>vn P gl D r a K ⟨⟩) ⟨⟩ o|false=>(match iA o with
   |some d=>b7 (s.put d (.a8 [])) (fun a=>vn P gl D r a K ⟨⟩) ⟨⟩|none=>vn P gl D r s K ⟨⟩)) ⟨⟩:=by
 simp only[vn,jL,MC];cases l1 s.env (some (u,w))with
 |none=>rfl|some b=>cases b<;>rfl
variable {d:Option Nat}{f:Nat}{xs:List aI}
theorem Uw :bV P gl D s K t (.ev d f xs)=bK (eG gl s.env xs) (fun vs=>(vs.map AV.aW).all AV.arg=true /\
   bK (D f (vs.map AV.aW)) (fun r=>aF P gl f (vs.map AV.aW) r/\b7 (s.fr d r) K ⟨⟩) ⟨⟩) ⟨⟩:=by
 simp only[bV,c8,bK];cases eG gl s.env xs with
 |none=>rfl|some vs =>
  refine congrArg (fun p=>(vs.map AV.aW).all AV.arg=true/\p) ?_;cases D f (vs.map AV.aW)with
  |none=>rfl|some r=>rfl
theorem Ux :bV P gl D s K t (.hB d f xs)=bK (eG gl s.env xs) (fun vs=>jK P gl f (vs.map AV.aW) s.heap fun r H'=>b7 (({ s with heap:=H' }:an).fr d r) K ⟨⟩) ⟨⟩:=by
 simp only[bV,c8,bK];cases eG gl s.env xs with
 |none=>rfl|some vs=>rfl
variable {x:aI}
theorem Uy :bV P gl D s K t (.lg d x xs)=bK (bg gl s.env x) (fun v=>match v with
  |.fn f gx=>bK (eG gl s.env xs) (fun vs=>jK P gl f (vs.map AV.aW++gx.map AV.aW) s.heap fun r a=>b7 (({ s with heap:=a }:an).fr d r) K ⟨⟩) ⟨⟩|_=>False) ⟨⟩:=by
 simp only[bV,c8,bK];cases bg gl s.env x with
 |none=>rfl|some v=>cases v with
  |fn f gx=>cases eG gl s.env xs<;>rfl|_=>rfl
theorem Uz :bV P gl D s K t (.lS d f xs)=bK (eG gl s.env xs) (fun vs=>jK P gl f (vs.map AV.aW) s.heap fun r H'=>(∃n,H'=s.heap++List.replicate n .dead)/\b7 (({ s with heap:=H' }:an).fr d r) K ⟨⟩) ⟨⟩:=by
 simp only[bV,c8,bK];cases eG gl s.env xs with
 |none=>rfl|some vs=>rfl
theorem UA :bV P gl D s K t (.my d f u xs)=bK (Env.get s.env u) (fun e=>bK (eG gl s.env xs) (fun vs=>match e with
  |.v (.list (some e) sz ys)=>jK P gl f (.list (some e) sz ys::vs.map AV.aW) s.heap fun r a=>b7 ((⟨s.env.ins u (.v (.list none sz ys)),a⟩:an).fr d r) K ⟨⟩|.v v=>jK P gl f (v.aW::vs.map AV.aW) s.heap fun r a=>b7 (({ s with heap:=a }:an).fr d r) K ⟨⟩|_=>False) ⟨⟩) ⟨⟩:=by
 simp only[bV,c8,bK];cases Env.get s.env u with
 |none=>rfl|some e=>cases eG gl s.env xs with
  |none=>grind|some vs=>cases e with
   |v x=>cases x with
    |list own sz ys=>cases own<;>rfl|_=>rfl
   |_=>rfl
variable {d:Nat}{it:aI}
theorem UB :bV P gl D s K t (.nc d it)=bK ((bg gl s.env it).bind (q8 s.heap)) (fun(id,m,since,seen,es)=>match es with
   |[]=>b7 (s.put d (.a8 [.bool false])) K ⟨⟩|e0::es=>∀e∈e0::es,b7 (({ s with heap:=s.heap.set id (.iter m since (seen++[e.1])) }:an).put d (.a8 [.bool true,e.1,e.2.aW])) K ⟨⟩) ⟨⟩:=by
 simp only[bV,c8,bK];cases (bg gl s.env it).bind (q8 s.heap)with
 |none=>rfl|some x=>obtain⟨id,m,since,seen,es⟩:=x;cases es<;>rfl
theorem UC :bV P gl D s K t (.ho d x)=b7 (aH gl s (.ho d x)) K ⟨⟩:=id rfl
theorem UD{x:Nat} :bV P gl D s K t (.pn d x)=b7 (aH gl s (.pn d x)) K ⟨⟩:=id rfl
theorem UE{a b:aI} :bV P gl D s K t (.pick d c a b)=b7 (aH gl s (.pick d c a b)) K ⟨⟩:=id rfl
variable {m:Nat}{y:aI}
theorem UF{op:BinOp} :bV P gl D s K t (.bin d m op x y)=b7 (aH gl s (.bin d m op x y)) K ⟨⟩:=id rfl
variable {ne:Bool}{ks:List Nat}
theorem an0 :bV P gl D s K t (.td d ne ks x y)=b7 (aH gl s (.td d ne ks x y)) K ⟨⟩:=id rfl
theorem UG :bV P gl D s K t (.po d x)=b7 (aH gl s (.po d x)) K ⟨⟩:=id rfl
theorem UH{k:IntKind} :bV P gl D s K t (.conv d k x)=b7 (aH gl s (.conv d k x)) K ⟨⟩:=id rfl
theorem UI{x:Nat} :bV P gl D s K t (.ext d x i)=b7 (aH gl s (.ext d x i)) K ⟨⟩:=id rfl
theorem UJ :bV P gl D s K t (.len d m x)=b7 (aH gl s (.len d m x)) K ⟨⟩:=id rfl
variable {z:List AV}
theorem an1 :bV P gl D s K t (.alloc d z)=b7 (aH gl s (.alloc d z)) K ⟨⟩:=id rfl
theorem UK :bV P gl D s K t (.box d x)=b7 (aH gl s (.box d x)) K ⟨⟩:=id rfl
theorem an2 :bV P gl D s K t (.ju d z)=b7 (aH gl s (.ju d z)) K ⟨⟩:=id rfl
theorem UL :bV P gl D s K t (.r4 d x)=b7 (aH gl s (.r4 d x)) K ⟨⟩:=id rfl
theorem UM :bV P gl D s K t (.r5 d x)=b7 (aH gl s (.r5 d x)) K ⟨⟩:=id rfl
theorem UN{parts:List (Nat×Nat×aI)} :bV P gl D s K t (.build d z parts)=b7 (aH gl s (.build d z parts)) K ⟨⟩:=id rfl
theorem UO :bV P gl D s K t (.lit d sz xs)=b7 (aH gl s (.lit d sz xs)) K ⟨⟩:=id rfl
theorem UP :bV P gl D s K t (.e3 d x off)=b7 (aH gl s (.e3 d x off)) K ⟨⟩:=id rfl
variable {i:aI}
theorem UQ :bV P gl D s K t (.mw d sz x i)=b7 (aH gl s (.mw d sz x i)) K ⟨⟩:=id rfl
variable {n:Nat}
theorem UR :bV P gl D s K t (.nQ d x n sz i)=b7 (aH gl s (.nQ d x n sz i)) K ⟨⟩:=id rfl
theorem US{ag:Bool} :bV P gl D s K t (.ld d x n ag)=b7 (aH gl s (.ld d x n ag)) K ⟨⟩:=id rfl
theorem UT :bV P gl D s K t (.iv d x e sz)=b7 (aH gl s (.iv d x e sz)) K ⟨⟩:=id rfl
variable {v:aI}
theorem UU :bV P gl D s K t (.st n x v)=b7 (aH gl s (.st n x v)) K ⟨⟩:=id rfl
theorem UW{v:Nat} :bV P gl D s K t (.hP x v)=b7 (aH gl s (.hP x v)) K ⟨⟩:=id rfl
theorem UX :bV P gl D s K t (.idx d x i)=b7 (aH gl s (.idx d x i)) K ⟨⟩:=id rfl
variable {bh ak:Option aI}
theorem UY :bV P gl D s K t (.pq d sz x bh ak)=b7 (aH gl s (.pq d sz x bh ak)) K ⟨⟩:=id rfl
theorem UZ :bV P gl D s K t (.qg d x n sz bh ak)=b7 (aH gl s (.qg d x n sz bh ak)) K ⟨⟩:=id rfl
theorem U0 :bV P gl D s K t (.app d u x e sz)=b7 (aH gl s (.app d u x e sz)) K ⟨⟩:=id rfl
theorem U1 :bV P gl D s K t (.ha d x)=b7 (aH gl s (.ha d x)) K ⟨⟩:=id rfl
theorem U2{gx:List aI} :bV P gl D s K t (.oF d f gx)=b7 (aH gl s (.oF d f gx)) K ⟨⟩:=id rfl
theorem U3 :bV P gl D s K t (.q3 d c e sz)=b7 (aH gl s (.q3 d c e sz)) K ⟨⟩:=id rfl
theorem U4 :bV P gl D s K t (.q4 d x e sz)=b7 (aH gl s (.q4 d x e sz)) K ⟨⟩:=id rfl
theorem U5{kl:Bool} :bV P gl D s K t (.mx d kl x y)=b7 (aH gl s (.mx d kl x y)) K ⟨⟩:=id rfl
variable {m k:aI}{zero:AV}
theorem U6{ok:Bool} :bV P gl D s K t (.look ks d m k zero ok)=b7 (aH gl s (.look ks d m k zero ok)) K ⟨⟩:=id rfl
theorem U7 :bV P gl D s K t (.h8 ks d m k zero)=b7 (aH gl s (.h8 ks d m k zero)) K ⟨⟩:=id rfl
theorem U8 :bV P gl D s K t (.pr ks m k v)=b7 (aH gl s (.pr ks m k v)) K ⟨⟩:=id rfl
theorem U9{v:Nat} :bV P gl D s K t (.qh ks m k v)=b7 (aH gl s (.qh ks m k v)) K ⟨⟩:=id rfl
theorem Va{d:Option Nat} :bV P gl D s K t (.ps ks d m k)=b7 (aH gl s (.ps ks d m k)) K ⟨⟩:=id rfl
theorem Vb :bV P gl D s K t (.q5 d m)=b7 (aH gl s (.q5 d m)) K ⟨⟩:=id rfl
theorem Vc :bV P gl D s K t (.nR d it)=b7 (aH gl s (.nR d it)) K ⟨⟩:=id rfl
theorem Vd :bV P gl D s K t (.r6 d e sz xs)=b7 (aH gl s (.r6 d e sz xs)) K ⟨⟩:=id rfl
theorem an3 :bV P gl D s K t (.r7 d e z x)=b7 (aH gl s (.r7 d e z x)) K ⟨⟩:=id rfl
theorem Ve{h2:Bool}{u:aI} :bV P gl D s K t (.q6 d e sz h2 u x)=b7 (aH gl s (.q6 d e sz h2 u x)) K ⟨⟩:=id rfl
theorem Vf :bV P gl D s K t (.q7 d ne x)=b7 (aH gl s (.q7 d ne x)) K ⟨⟩:=id rfl
theorem Vg :bV P gl D s K t (.r8 d x)=b7 (aH gl s (.r8 d x)) K ⟨⟩:=id rfl
theorem Vh{n:aI} :bV P gl D s K t (.r9 d e x n)=b7 (aH gl s (.r9 d e x n)) K ⟨⟩:=id rfl
theorem Vi :bV P gl D s K t (.sa d f x)=b7 (aH gl s (.sa d f x)) K ⟨⟩:=id rfl
theorem an4 :bV P gl D s K t (.te d f x y)=b7 (aH gl s (.te d f x y)) K ⟨⟩:=id rfl
theorem an5{m:Nat} :bV P gl D s K t (.on m o)=b7 (aH gl s (.on m o)) K ⟨⟩:=id rfl
end
attribute [go_sem ↓] anM anN anO anP anQ anR anS anT anU anV anW anX anY anZ Uw Ux Uy Uz UA UB UC UD UE UF an0 UG UH UI UJ an1 UK an2 UL UM UN UO UP UQ UR US UT UU UW UX UY UZ U0 U1 U2 U3 U4 U5 U6 U7 U8 U9 Va Vb Vc Vd an3 Ve Vf Vg Vh Vi an4 an5
attribute [go_sem] DH pM anF Ut vk xf anE Uq anJ ec anK anL Uu Uv
attribute [go_sem] aH bg eG eH gy an.put an.lh an.fr Env.get l5 eo setCells FB FC FD hC nS ew fG l1 iA ts AG AH yQ
attribute [go_sem] ne_eq not_false_eq_true not_true_eq_false List.nil_append List.cons_append Option.map_some Option.map_none beq_true beq_false List.set_cons_zero List.set_cons_succ List.length_set List.all_cons List.all_nil List.any_cons List.any_nil List.map_cons List.map_nil List.take List.drop LW List.length_nil List.length_map List.getElem?_cons_zero List.getElem?_cons_succ Option.bind_some Option.bind_none Bool.and_true Bool.true_and Bool.and_false Bool.false_and Bool.or_true Bool.true_or Bool.or_false Bool.false_or Bool.not_true Bool.not_false
attribute [go_sem] true_and and_true and_self or_self or_false or_true false_or true_or if_true if_false ite_true ite_false decide_true decide_false Bool.false_eq_true List.contains_cons List.contains_nil Nat.zero_add Nat.add_zero Nat.lt_irrefl Nat.not_lt_zero beq_self_eq_true
theorem an6(b:Bool):AV.cells (AV.bool b)=[(AV.bool b)]:=rfl
theorem an7(b:Bool):AV.aW (AV.bool b)=(AV.bool b):=rfl
theorem an8(b:Bool):AV.one (AV.bool b)=true:=rfl
theorem an9(b:Bool):AV.eb (AV.bool b)=true:=rfl
theorem aoa(b:Bool):AV.pure (AV.bool b)=true:=rfl
theorem aob(b:Bool):AV.arg (AV.bool b)=true:=rfl
theorem aoc(b:Bool):AV.res (AV.bool b)=true:=rfl
theorem aod(b:Bool):AV.iI (AV.bool b)=none:=rfl
theorem aoe(k:IntKind)(n:Int):AV.cells (AV.int k n)=[(AV.int k n)]:=rfl
theorem aof(k:IntKind)(n:Int):AV.aW (AV.int k n)=(AV.int k n):=rfl
theorem aog(k:IntKind)(n:Int):AV.one (AV.int k n)=true:=rfl
theorem aoh(k:IntKind)(n:Int):AV.eb (AV.int k n)=true:=rfl
theorem aoi(k:IntKind)(n:Int):AV.pure (AV.int k n)=true:=rfl
theorem aoj(k:IntKind)(n:Int):AV.arg (AV.int k n)=true:=rfl
theorem aok(k:IntKind)(n:Int):AV.res (AV.int k n)=true:=rfl
theorem aol(k:IntKind)(n:Int):AV.iI (AV.int k n)=none:=rfl
theorem aom(s:List UInt8):AV.cells (AV.str s)=[(AV.str s)]:=rfl
theorem aon(s:List UInt8):AV.aW (AV.str s)=(AV.str s):=rfl
theorem aoo(s:List UInt8):AV.one (AV.str s)=true:=rfl
theorem aop(s:List UInt8):AV.eb (AV.str s)=true:=rfl
theorem aoq(s:List UInt8):AV.pure (AV.str s)=true:=rfl
theorem aor(s:List UInt8):AV.arg (AV.str s)=true:=rfl
theorem aos(s:List UInt8):AV.res (AV.str s)=true:=rfl
theorem aot(s:List UInt8):AV.iI (AV.str s)=none:=rfl
theorem aou :AV.cells AV.eP=[AV.eP]:=rfl
theorem aov :AV.aW AV.eP=AV.eP:=rfl
theorem aow :AV.one AV.eP=true:=rfl
theorem aox :AV.eb AV.eP=true:=rfl
theorem aoy :AV.pure AV.eP=true:=rfl
theorem aoz :AV.arg AV.eP=true:=rfl
theorem aoA :AV.res AV.eP=true:=rfl
theorem aoB :AV.iI AV.eP=none:=rfl
theorem aoC(i o:Nat):AV.cells (AV.ptr i o)=[(AV.ptr i o)]:=rfl
theorem aoD(i o:Nat):AV.aW (AV.ptr i o)=(AV.ptr i o):=rfl
theorem aoE(i o:Nat):AV.one (AV.ptr i o)=true:=rfl
theorem aoF(i o:Nat):AV.eb (AV.ptr i o)=false:=rfl
theorem aoG(i o:Nat):AV.pure (AV.ptr i o)=false:=rfl
theorem aoH(i o:Nat):AV.arg (AV.ptr i o)=false:=rfl
theorem aoI(i o:Nat):AV.res (AV.ptr i o)=false:=rfl
theorem aoJ(i o:Nat):AV.iI (AV.ptr i o)=none:=rfl
theorem aoK(cs:List AV):AV.cells (AV.db cs)=[(AV.db cs)]:=rfl
theorem aoL(cs:List AV):AV.aW (AV.db cs)=(AV.db cs):=rfl
theorem aoM(cs:List AV):AV.one (AV.db cs)=true:=rfl
theorem aoN(cs:List AV):AV.eb (AV.db cs)=true:=rfl
theorem aoO(cs:List AV):AV.pure (AV.db cs)=true:=rfl
theorem aoP(cs:List AV):AV.arg (AV.db cs)=true:=rfl
theorem aoQ(cs:List AV):AV.res (AV.db cs)=true:=rfl
theorem aoR(cs:List AV):AV.iI (AV.db cs)=none:=rfl
theorem aoS(o:Option Nat)(z:Nat)(xs:List AV):AV.cells (AV.list o z xs)=[(AV.list o z xs)]:=rfl
theorem aoT(o:Option Nat)(z:Nat)(xs:List AV):AV.aW (AV.list o z xs)=AV.list none z xs:=rfl
theorem aoU(o:Option Nat)(z:Nat)(xs:List AV):AV.one (AV.list o z xs)=true:=rfl
theorem aoV(o:Option Nat)(z:Nat)(xs:List AV):AV.res (AV.list o z xs)=true:=rfl
theorem aoW(z:Nat)(xs:List AV):AV.eb (AV.list none z xs)=true:=rfl
theorem aoX(e z:Nat)(xs:List AV):AV.eb (AV.list (some e) z xs)=false:=rfl
theorem aoY(z:Nat)(xs:List AV):AV.pure (AV.list none z xs)=true:=rfl
theorem aoZ(e z:Nat)(xs:List AV):AV.pure (AV.list (some e) z xs)=false:=rfl
theorem ao0(z:Nat)(xs:List AV):AV.arg (AV.list none z xs)=true:=rfl
theorem ao1(e z:Nat)(xs:List AV):AV.arg (AV.list (some e) z xs)=false:=rfl
theorem ao2(o:Option Nat)(z:Nat)(xs:List AV):AV.iI (AV.list o z xs)=some (z,xs):=rfl
theorem ao3(i:Nat):AV.cells (AV.map i)=[(AV.map i)]:=rfl
theorem ao4(i:Nat):AV.aW (AV.map i)=(AV.map i):=rfl
theorem ao5(i:Nat):AV.one (AV.map i)=true:=rfl
theorem ao6(i:Nat):AV.eb (AV.map i)=false:=rfl
theorem ao7(i:Nat):AV.pure (AV.map i)=false:=rfl
theorem ao8(i:Nat):AV.arg (AV.map i)=false:=rfl
theorem ao9(i:Nat):AV.res (AV.map i)=false:=rfl
theorem apa(i:Nat):AV.iI (AV.map i)=none:=rfl
theorem apb :AV.cells AV.gw=[AV.gw]:=rfl
theorem apc :AV.aW AV.gw=AV.gw:=rfl
theorem apd :AV.one AV.gw=true:=rfl
theorem ape :AV.eb AV.gw=true:=rfl
theorem apf :AV.pure AV.gw=true:=rfl
theorem apg :AV.arg AV.gw=true:=rfl
theorem aph :AV.res AV.gw=true:=rfl
theorem api :AV.iI AV.gw=none:=rfl
theorem apj(f:Nat)(cs:List AV):AV.cells (AV.fn f cs)=[(AV.fn f cs)]:=rfl
theorem apk(f:Nat)(cs:List AV):AV.aW (AV.fn f cs)=(AV.fn f cs):=rfl
theorem apl(f:Nat)(cs:List AV):AV.one (AV.fn f cs)=true:=rfl
theorem apm(f:Nat)(cs:List AV):AV.eb (AV.fn f cs)=false:=rfl
theorem apn(f:Nat)(cs:List AV):AV.pure (AV.fn f cs)=false:=rfl
theorem apo(f:Nat)(cs:List AV):AV.arg (AV.fn f cs)=cs.all AV.eb:=rfl
theorem apq(f:Nat)(cs:List AV):AV.res (AV.fn f cs)=cs.all AV.eb:=rfl
theorem apr(f:Nat)(cs:List AV):AV.iI (AV.fn f cs)=none:=rfl
theorem aps :AV.cells AV.ki=[AV.ki]:=rfl
theorem apt :AV.aW AV.ki=AV.ki:=rfl
theorem apu :AV.one AV.ki=true:=rfl
theorem apv :AV.eb AV.ki=true:=rfl
theorem apw :AV.pure AV.ki=true:=rfl
theorem apx :AV.arg AV.ki=true:=rfl
theorem apy :AV.res AV.ki=true:=rfl
theorem apz :AV.iI AV.ki=none:=rfl
theorem apA :AV.cells AV.kj=[AV.kj]:=rfl
theorem apB :AV.aW AV.kj=AV.kj:=rfl
theorem apC :AV.one AV.kj=true:=rfl
theorem apD :AV.eb AV.kj=true:=rfl
theorem apE :AV.pure AV.kj=true:=rfl
theorem apF :AV.arg AV.kj=true:=rfl
theorem apG :AV.res AV.kj=true:=rfl
theorem apH :AV.iI AV.kj=none:=rfl
theorem apI(z:Nat):AV.cells (AV.aV z)=[(AV.aV z)]:=rfl
theorem apJ(z:Nat):AV.aW (AV.aV z)=(AV.aV z):=rfl
theorem apK(z:Nat):AV.one (AV.aV z)=true:=rfl
theorem apL(z:Nat):AV.eb (AV.aV z)=true:=rfl
theorem apM(z:Nat):AV.pure (AV.aV z)=true:=rfl
theorem apN(z:Nat):AV.arg (AV.aV z)=true:=rfl
theorem apO(z:Nat):AV.res (AV.aV z)=true:=rfl
theorem apP(z:Nat):AV.iI (AV.aV z)=some (z,[]):=rfl
theorem apQ(z:Nat):AV.cells (AV.lb z)=[(AV.lb z)]:=rfl
theorem apR(z:Nat):AV.aW (AV.lb z)=(AV.lb z):=rfl
theorem apS(z:Nat):AV.one (AV.lb z)=true:=rfl
theorem apT(z:Nat):AV.eb (AV.lb z)=false:=rfl
theorem apU(z:Nat):AV.pure (AV.lb z)=false:=rfl
theorem apV(z:Nat):AV.arg (AV.lb z)=false:=rfl
theorem apW(z:Nat):AV.res (AV.lb z)=false:=rfl
theorem apX(z:Nat):AV.iI (AV.lb z)=none:=rfl
theorem apY(z:Nat):AV.cells (AV.gZ z)=[(AV.gZ z)]:=rfl
theorem apZ(z:Nat):AV.aW (AV.gZ z)=(AV.gZ z):=rfl
theorem ap0(z:Nat):AV.one (AV.gZ z)=true:=rfl
theorem ap1(z:Nat):AV.eb (AV.gZ z)=true:=rfl
theorem ap2(z:Nat):AV.pure (AV.gZ z)=true:=rfl
theorem ap3(z:Nat):AV.arg (AV.gZ z)=true:=rfl
theorem ap4(z:Nat):AV.res (AV.gZ z)=true:=rfl
theorem ap5(z:Nat):AV.iI (AV.gZ z)=some (z,[]):=rfl
theorem ap6(i o n z:Nat):AV.cells (AV.bs i o n z)=[(AV.bs i o n z)]:=rfl
theorem ap7(i o n z:Nat):AV.aW (AV.bs i o n z)=(AV.bs i o n z):=rfl
theorem ap8(i o n z:Nat):AV.one (AV.bs i o n z)=true:=rfl
theorem ap9(i o n z:Nat):AV.eb (AV.bs i o n z)=false:=rfl
theorem aqa(i o n z:Nat):AV.pure (AV.bs i o n z)=false:=rfl
theorem aqb(i o n z:Nat):AV.arg (AV.bs i o n z)=false:=rfl
theorem aqc(i o n z:Nat):AV.res (AV.bs i o n z)=false:=rfl
theorem aqd(i o n z:Nat):AV.iI (AV.bs i o n z)=none:=rfl
theorem aqe(cs:List AV):AV.cells (AV.agg cs)=cs:=rfl
theorem aqf(cs:List AV):AV.aW (AV.agg cs)=(AV.agg cs):=rfl
theorem aqg(cs:List AV):AV.one (AV.agg cs)=false:=rfl
theorem aqh(cs:List AV):AV.eb (AV.agg cs)=false:=rfl
theorem aqi(cs:List AV):AV.pure (AV.agg cs)=cs.all AV.eb:=rfl
theorem aqj(cs:List AV):AV.arg (AV.agg cs)=cs.all AV.eb:=rfl
theorem aqk(cs:List AV):AV.res (AV.agg cs)=cs.all AV.eb:=rfl
theorem aql(cs:List AV):AV.iI (AV.agg cs)=none:=rfl
theorem aqm(cs:List AV):AV.cells (AV.a8 cs)=[(AV.a8 cs)]:=rfl
theorem aqn(cs:List AV):AV.aW (AV.a8 cs)=(AV.a8 cs):=rfl
theorem aqo(cs:List AV):AV.one (AV.a8 cs)=false:=rfl
theorem aqp(cs:List AV):AV.eb (AV.a8 cs)=false:=rfl
theorem aqq(cs:List AV):AV.pure (AV.a8 cs)=false:=rfl
theorem aqr(cs:List AV):AV.res (AV.a8 cs)=cs.all AV.arg:=rfl
theorem aqs(cs:List AV):AV.iI (AV.a8 cs)=none:=rfl
attribute [go_sem] apY apZ ap0 ap1 ap2 ap3 ap4 ap5 an6 an7 an8 an9 aoa aob aoc aod aoe aof aog aoh aoi aoj aok aol aom aon aoo aop aoq aor aos aot aou aov aow aox aoy aoz aoA aoB aoC aoD aoE aoF aoG aoH aoI aoJ aoK aoL aoM aoN aoO aoP aoQ aoR aoS aoT aoU aoV aoW aoX aoY aoZ ao0 ao1 ao2 ao3 ao4 ao5 ao6 ao7 ao8 ao9 apa apb apc apd ape apf apg aph api apj apk apl apm apn apo apq apr aps apt apu apv apw apx apy apz apA apB apC apD apE apF apG apH apI apJ apK apL apM apN apO apP apQ apR apS apT apU apV apW apX ap6 ap7 ap8 ap9 aqa aqb aqc aqd aqe aqf aqg aqh aqi aqj aqk aql aqm aqn aqo aqp aqq aqr aqs
section
variable {P:Program}{gl:cp}{D:bc}
theorem b9{d:Type}{bu:List Nat}{c:aG}{s:an}{Q:kn->an->Prop}(E:d->an)(a:d->Prop)(r:d->Nat)(g:d)(fK:a g)(l:({ s with env:=s.env.close bu }:an)=E g)
  (step:∀i,a i->jx P gl D c (E i) (fun e f=>match e with|.normal=>∃j,a j/\r j<r i/\({ f with env:=f.env.close bu }:an)=E j|e=>Q e f) ⟨⟩){t:aM Q} :
  jx P gl D (.loop (.drop bu c)) s Q t:=by
 show exec P gl D (.loop (.drop bu c)) s Q;have key:∀n i,r i=n->a i->∀s:an,({ s with env:=s.env.close bu }:an)=E i->exec P gl D (.loop (.drop bu c)) s Q:=by
  intro n;induction n using Nat.strongRecOn with
  |_ n ih =>
   intro i m ak s az;refine alU ?_;show exec P gl D c { s with env:=s.env.close bu } _;rw[az];refine oY c (show exec P gl D c _ _ from step i ak) fun e f h=>?_;cases e with
   |normal=>grind|exit k=>exact h|ret=>exact h
 exact key _ g rfl fK s l
end
theorem I.arg(t:I):t.enc.arg=true:=by rw[t.xd];rfl
theorem I.aW(t:I):t.enc.aW=t.enc:=by rw[t.xd];rfl
theorem I.ME(t:I):t.enc.cells=t.cells:=by rw[t.xd];rfl
theorem Bb(l:List I)(i:Nat):(eA l)[i]?=(l[i]?).map I.enc:=by rw[vj,List.getElem?_map]
theorem kv(l:List I):(eA l).length=l.length:=by rw[vj,List.length_map]
theorem wrap64{n:Int}(h : -9223372036854775808<=n)(a:n<9223372036854775808):IntKind.i64.wrap n=n:=by
 simp only[IntKind.wrap,IntKind.signed,IntKind.bits];simp;omega
mutual
def I.eM:I->Prop|.mk n l=>n.length<=M/\l.length<=M/\rC l
def rC:List I->Prop|[]=>True|t::r=>t.eM/\rC r
end
mutual
theorem I.nv{γ:e4}:∀(t:I){b off:Nat},e5 γ b off t.cells->t.eM
 |.mk n l,b,off,h=>by
  simp only[I.cells,I.name,I.args]at h;cases h with
  |cons _ _ _ _ v h1 U e f=>cases f with
   |cons _ _ _ _ g i j a k =>
    simp only[I.eM];refine⟨by cases e with|str _ h=>exact h,?_⟩;generalize ah:eA l=xs at a;cases a with
    |jD =>
     have:l=[]:=by cases l with|nil=>rfl|cons t r=>simp[eA]at ah
     subst this;simp[rC]
    |list m o cap sz _ c p d =>
     rw[<-ah,kv]at c;refine⟨c,?_⟩;rw[<-ah]at d;exact MF l d
theorem MF{γ:e4}:∀(l:List I){b off:Nat},eI γ b off 2 (eA l)->rC l
 |[],_,_,_=>by simp[rC]|t::r,b,off,h=>by
  simp only[eA]at h;cases h with
  |cons _ _ _ _ _ h1 U a =>
   simp only[rC];rw[I.ME]at U;exact⟨t.nv U,MF r a⟩
end
variable {l:List I}{v:Value}
theorem aqt{γ:e4}(h:df γ (jw l) v):l.length<=M/\rC l:=by
 unfold jw at h;generalize ah:eA l=xs at h;cases h with
 |jD =>
  have:l=[]:=by cases l with|nil=>rfl|cons t r=>simp[eA]at ah
  subst this;simp[rC]
 |list d e cap sz _ a f c =>
  rw[<-ah]at c;rw[<-ah,kv]at a;exact⟨a,MF l c⟩
variable {g:bo}
theorem DI(h:bb g (jw l) v):l.length<=M/\rC l:=by
 unfold jw at h;cases h with
 |pure _ _ h=>exact aqt h
theorem I.kx{t:I}(h:bb g t.enc v):t.eM:=by
 obtain⟨n,l⟩:=t;simp only[I.enc]at h;obtain⟨ws,rfl,a,_⟩:=h.nW;cases a with
 |cons _ _ v ws U c=>cases c with
  |cons _ _ f d e i =>
   simp only[I.eM];exact⟨U.G1,DI e⟩
section
variable {P:Program}{gl:cp}
theorem aF.assume{f:Nat}{xs:List AV}{r:AV}{B:Prop}(fl:∀γ vs,cr (AE γ) xs vs->B)(h:B->aF P gl f xs r):aF P gl f xs r :=
 fun γ w vs c U a=>h (fl γ vs a) γ w vs c U a
end
open Classical in
mutual
def rD:AV->Option I
 |.agg [.str n,.list none 2 l]=>(Bc l).map (.mk n)|.agg [.str n,.aV 2]=>some (.mk n [])|_=>none
def Bc:List AV->Option (List I)
 |[]=>some []|x::r=>match rD x,Bc r with|some t,some l=>some (t::l)|_,_=>none
end
def DJ:AV->Option (List I)
 |.list none 2 l=>Bc l|.aV 2=>some []|_=>none
mutual
theorem Bd:∀t:I,rD t.enc=some t
 |.mk n l=>by simp only[I.enc,rD,MG l,Option.map_some]
theorem MG:∀l:List I,Bc (eA l)=some l
 |[]=>by simp only[eA,Bc]|t::r=>by simp only[eA,Bc,Bd t,MG r]
end
theorem Vj(l:List I):DJ (jw l)=some l:=MG l
def bQ(x y:AV):Prop:=∀g v,bb g x v->bb g y v
theorem bQ.refl(x:AV):bQ x x:=fun _ _ h=>h
theorem bQ.aV(sz:Nat):bQ (.aV sz) (.list none sz []):=fun g v h=>by
 cases h with
 |pure _ _ h=>cases h;exact .pure _ _ (.jD _ _ _ (by simp))
theorem bQ.disown(e sz:Nat)(xs:List AV):bQ (.list (some e) sz xs) (.list none sz xs):=fun g v h=>by
 cases h with
 |pure _ _ h=>cases h|own _ _ _ _ h=>exact .pure _ _ h
inductive xg:List AV->List AV->Prop where
 |nil:xg [] []|cons {x y:AV} {xs ys:List AV}:bQ x y->xg xs ys->xg (x::xs) (y::ys)
theorem xg.yw :∀{xs ys:List AV}{vs:List Value},xg xs ys->cr g xs vs->cr g ys vs
 |[],_,_,.nil,h=>h|_::_,_,_,.cons h az,.cons _ _ _ _ a c=>.cons _ _ _ _ (h _ _ a) (az.yw c)
variable {xs ys:List AV}
theorem bQ.a8(h:xg xs ys):bQ (.a8 xs) (.a8 ys):=fun g v a=>by
 cases a with
 |pure _ _ h=>cases h|a8 _ ws hw=>exact .a8 _ _ (h.yw hw)
theorem bQ.agg(h:xg xs ys):bQ (.agg xs) (.agg ys):=fun g v a=>by
 obtain⟨ws,rfl,c,U⟩:=a.nW;exact .agg _ _ (h.yw c) U
theorem I.res(t:I):t.enc.res=true:=by rw[t.xd];rfl
theorem I.jP(t:I):cP t.enc:=by rw[t.xd];exact fun e sz xs h=>by simp at h
section
variable {P:Program}{gl:cp}{D:bc}
variable {f:Nat}{r:AV}
theorem aF.args(h:aF P gl f ys r)(a:xg xs ys):aF P gl f xs r :=
 fun γ w vs c U d=>h γ w vs c U (a.yw d)
theorem aF.jl{gA:aG}{hT:List bF}(j:bN P f xs.length gA hT=true)(ah:xs.all AV.arg=true)(k:r.res=true)(m:cP r)
  (he:exec P gl D gA ⟨l5 0 xs,[]⟩ (yQ fun s=>∃d,ts s.env hT=some d/\bQ d r)):aF P gl f xs r:=by
 have n:bn P gl f xs [] fun d _=>bQ d r:=bn.intro j (oY gA he fun e s h=>by
  cases e with
  |exit i=>exact h|normal=>exact h|ret=>exact h)
 intro γ w vs p q u;let g:bo:=⟨γ,fun b=>if b<w.heap.size then .outer else .none,fun _=>none⟩
 have c:Rel P gl 0 g (lz []) su w :=
  ⟨.nil,rfl,rfl,fun t e he=>by simp[lz,Env.get]at he,fun id bA y=>by simp[lz]at y,p,fun b ae=>by
   by_cases h:b<w.heap.size
   ·exact h
   ·simp[g,h]at ae,q,fun id b h=>by cases h⟩
 have z:∀x∈xs,cP x:=fun x A=>Dl (List.all_eq_true.1 ah x A);refine(n.2 g w vs c (u.yR ah g rfl) (fun i x v h _=>(z x (List.mem_of_getElem? h)).gb)).mono ?_;rintro e w' ⟨v,G,H,g',rfl,B,a,C,E,_⟩;have F:∀b,b<w.heap.size->g'.bD b=.outer/\w'.heap[b]?=w.heap[b]?/\∀o,g'.γ b o=γ b o:=fun b ae=>a.outer b (by simp[g,ae]);refine⟨v,g'.γ,rfl,a.γ,a.size,fun b ae=>(F b ae).2,⟨a.os,a.out⟩,C.ff,?_,m.gb⟩;exact(B _ _ E).Dk k _ rfl
end
attribute [go_sem] Int.cast_ofNat_Int Int.toNat_natCast Int.toNat_zero chunk List.headD_cons
abbrev aj:=List UInt8
variable {α:Type}{l:List α}{i:Nat}{x:α}
theorem Nt(h:l[i]?=some x):l.take (i+1)=l.take i++[x]:=by rw[List.take_add_one,h];rfl
variable {p:α->Bool}
theorem Nu(h:l[i]?=some x):(l.take (i+1)).all p=((l.take i).all p&&p x):=by rw[Nt h];simp only[List.all_append,List.all_cons,List.all_nil,Bool.and_true]
theorem HO(h:l[i]?=some x)(ao:p x=false):l.all p=false:=by grind
def jn(c:UInt8)(l:List (Nat×Nat)):Bool:=l.any fun p=>decide (p.1<=c.toNat)&&decide (c.toNat<=p.2)
def oh(s:aj)(a b c:Nat×Nat):Bool:=match s with
 |[]=>false|x::_=>decide (s.length<=16)&&jn x [a]&&s.all fun y=>jn y [a,b,c]
def fo(s:aj):Bool:=oh s (97,122) (48,57) (45,45)&&!(s==[105,102])&&!(s==[97,110,100])&&!(s==[110,111,116])
def e9(s:aj):Bool:=oh s (65,90) (97,122) (48,57)
def hv(c:UInt8):Bool:=decide (48<=c.toNat)&&decide (c.toNat<=57)
def kb:aj->Nat->Nat|[],n=>n|c::r,n=>kb r (10*n+(c.toNat-48))
def hh(s:aj):Option Nat:=match s with
 |[]=>none|x::r=>if s.length<=4/\¬(x=48/\r≠[])/\s.all hv=true then some (kb s 0)else none
def l8(s:aj):AV:=.a8 [.int .i64 ((hh s).getD 0:Nat),.bool (hh s).isSome]
theorem aaH:∀(s:aj)(n:Nat),s.all hv=true->kb s n+1<=(n+1)*10 ^ s.length
 |[],n,_=>by simp[kb]|c::r,n,h=>by
  simp only[List.all_cons,Ja]at h;have a:=aaH r (10*n+(c.toNat-48)) h.2;have U:c.toNat<=57:=by have:=h.1;simp[hv]at this;exact this.2
  simp only[kb,LW,Nat.pow_succ];refine Nat.le_trans a ?_;rw[show(n+1)*(10 ^ r.length*10)=(10*(n+1))*10 ^ r.length by rw[Nat.mul_comm (10 ^ r.length),<-Nat.mul_assoc,Nat.mul_comm (n+1)]];exact Nat.mul_le_mul_right _ (by omega)
theorem aaI:∀(s:aj)(c:UInt8)(n:Nat),kb (s++[c]) n=10*kb s n+(c.toNat-48)
 |[],_,_=>rfl|_::r,c,n=>by simp only[List.cons_append,kb];exact aaI r c _
variable {s:aj}
theorem aaJ(hd:s.all hv=true)(a:s.length<=4):kb s 0<=9999:=by
 have h:=aaH s 0 hd;have:10 ^ s.length<=10 ^ 4:=Nat.pow_le_pow_right (by decide) a;omega
theorem Nv(h:hh s=none):l8 s=.a8 [.int .i64 0,.bool false]:=by simp[l8,h]
theorem Nw{n:Nat}(h:hh s=some n):l8 s=.a8 [.int .i64 n,.bool true]:=by simp[l8,h]
def hx(t:I):Nat×Nat×Nat×aj :=
 if t.args.length>0 then(3,0,t.args.length,t.name)
 else match hh t.name with
  |some n=>(0,n,0,[])|none=>if e9 t.name then(2,0,0,t.name)else(1,0,0,t.name)
def xp(k:Nat×Nat×Nat×aj):AV:=.agg [.int .i64 k.1,.int .i64 k.2.1,.int .i64 k.2.2.1,.str k.2.2.2]
def hU(a b:Nat):Int:=if a<b then -1 else if b<a then 1 else 0
mutual
def cf:I->I->Int
 |.mk n a,.mk m b =>
  let x:=hx (.mk n a);let y:=hx (.mk m b)
  if x=y then fy a b
  else if x.1≠y.1 then hU x.1 y.1
  else if x.2.1≠y.2.1 then hU x.2.1 y.2.1
  else if x.2.2.1≠y.2.2.1 then hU x.2.2.1 y.2.2.1
  else dk x.2.2.2 y.2.2.2
def fy:List I->List I->Int
 |[],[]=>0|[],_::_=>-1|_::_,[]=>1|s::r,t::u=>let c:=cf s t;if c=0 then fy r u else c
end
theorem aaK(t u:I):cf t u=if hx t=hx u then fy t.args u.args
  else if(hx t).1≠(hx u).1 then hU (hx t).1 (hx u).1
  else if(hx t).2.1≠(hx u).2.1 then hU (hx t).2.1 (hx u).2.1
  else if(hx t).2.2.1≠(hx u).2.2.1 then hU (hx t).2.2.1 (hx u).2.2.1
  else dk (hx t).2.2.2 (hx u).2.2.2:=by
 obtain⟨n,a⟩:=t;obtain⟨m,b⟩:=u;simp only[cf,I.args]
theorem atS(l m:List I)(h:l.length=0\/m.length=0):fy l m=hU l.length m.length:=by
 cases l<;>cases m<;>simp_all[fy,hU]
variable {l m:List I}{t u:I}
theorem atT(a:l[i]?=some t)(U:m[i]?=some u):fy (l.drop i) (m.drop i)=if cf t u=0 then fy (l.drop (i+1)) (m.drop (i+1))else cf t u:=by
 have c:=TH (I9.1 a).1;have d:=TH (I9.1 U).1;rw[(I9.1 a).2]at c;rw[(I9.1 U).2]at d;rw[c,d];simp only[fy]
theorem atU(l m:List α)(i:Nat)(c:i<=l.length)(U:i<=m.length):hU (l.drop i).length (m.drop i).length=hU l.length m.length:=by
 simp only[hU,List.length_drop];by_cases a:l.length<m.length
 ·rw[if_pos a,if_pos (by omega)]
 ·grind
mutual
def hi:I->I->Bool|.mk n a,.mk m b=>n==m&&fS a b
def fS:List I->List I->Bool|[],[]=>true|s::r,t::u=>hi s t&&fS r u|_,_=>false
end
mutual
theorem aaL:∀(t u:I),hi t u=true↔t=u
 |.mk n a,.mk m b=>by simp only[hi,Ja,beq_iff_eq,D1 a b,I.mk.injEq]
theorem D1:∀(l m:List I),fS l m=true↔l=m
 |[],[]=>by simp[fS]|[],_::_=>by simp[fS]|_::_,[]=>by simp[fS]|s::r,t::u=>by simp only[fS,Ja,aaL s t,D1 r u,List.cons.injEq]
end
theorem atV(h:l.length≠m.length):fS l m=false:=by
 rw[Bool.eq_false_iff];intro U;rw[D1]at U;exact h (by rw[U])
theorem atW(a:l[i]?=some t)(U:m[i]?=some u):fS (l.drop i) (m.drop i)=(hi t u&&fS (l.drop (i+1)) (m.drop (i+1))):=by
 have c:=TH (I9.1 a).1;have d:=TH (I9.1 U).1;rw[(I9.1 a).2]at c;rw[(I9.1 U).2]at d;rw[c,d];simp only[fS]
def ct:Nat->I->Bool->Bool
 |0,_,_=>false|n+1,t,v=>decide (t.args.length<=4)&&(if t.args.length=0 then fo t.name||(hh t.name).isSome||(v&&e9 t.name)else t.args.all (fun u=>ct n u v)&&fo t.name)
def rH(s:aj):Nat:=(hh s).getD 0
def kA(t:I):Nat:=if t.args.length>0 then 3 else if(hh t.name).isSome then 0 else if e9 t.name then 2 else 1
theorem aa2(t:I):hx t=(kA t,if kA t=0 then rH t.name else 0,t.args.length,if kA t=0 then[]else t.name):=by
 unfold hx kA rH;by_cases h:t.args.length>0
 ·simp[h]
 ·grind
theorem NI(h:kA t≠3):t.args=[]:=by
 unfold kA at h;by_cases a:t.args.length>0
 ·simp[a]at h
 ·exact List.eq_nil_of_length_eq_zero (by omega)
theorem mP:∀{a b:aj},dk a b=0↔a=b
 |[],[]=>by simp[dk]|[],_::_=>by simp[dk]|_::_,[]=>by simp[dk]|x::r,y::t=>by
  simp only[dk];by_cases h:x=y
  ·subst h;simp[mP (a:=r) (b:=t)]
  ·simp only[h,if_false];split<;>simp[h]
theorem aut(t u:I):cf t u=if kA t≠kA u then hU (kA t) (kA u)
  else if kA t=0 then hU (rH t.name) (rH u.name)
  else if t.args.length≠u.args.length then hU t.args.length u.args.length
  else if dk t.name u.name≠0 then dk t.name u.name else fy t.args u.args:=by
 rw[aaK,aa2 t,aa2 u];generalize k:kA t=c;generalize hd:kA u=d;by_cases f:c=d
 ·subst f;by_cases U:c=0
  ·subst U;have aE:=NI (t:=t) (by omega);have ae:=NI (t:=u) (by omega);by_cases a:rH t.name=rH u.name
   ·simp[aE,ae,a,fy,hU]
   ·simp[aE,ae,a]
  ·by_cases a:t.args.length=u.args.length
   ·by_cases e:t.name=u.name
    ·simp[U,a,e,mP.2 rfl]
    ·have j:dk t.name u.name≠0:=fun h=>e (mP.1 h);simp[U,a,e,j]
   ·simp[U,a]
 ·simp[f]
def Bq(c d v w vB mQ:Nat)(s l:Int):Int:=if c≠d then hU c d else if c=0 then hU v w else if vB≠mQ then hU vB mQ else if s≠0 then s else l
theorem D2(t u:I):cf t u=Bq (kA t) (kA u) (rH t.name) (rH u.name) t.args.length u.args.length (dk t.name u.name) (fy t.args u.args):=by rw[aut];rfl
theorem HR:∀(a b:aj),dk a b=if Op.bytesLess a b=true then -1 else if Op.bytesLess b a=true then 1 else 0
 |[],[]=>by simp[dk,Op.bytesLess]|[],_::_=>by simp[dk,Op.bytesLess]|_::_,[]=>by simp[dk,Op.bytesLess]|x::r,y::t=>by
  simp only[dk,Op.bytesLess];by_cases h:x=y
  ·subst h;simp[HR r t]
  ·grind
def mR(l:List I)(t:I):Nat->Nat->Nat->Nat
 |0,bh,_=>bh|f+1,bh,ak=>if bh<ak then(match l[(bh+ak) / 2]? with
  |some x=>if cf x t<0 then mR l t f ((bh+ak) / 2+1) ak else mR l t f bh ((bh+ak) / 2)|none=>bh)else bh
variable {bh ak:Nat}
theorem Br(l:List I)(t:I)(h:ak<=bh):∀f,mR l t f bh ak=bh
 |0=>rfl|f+1=>by simp only[mR,if_neg (show ¬bh<ak by omega)]
theorem xq(l:List I)(t:I):∀f bh ak,ak-bh<=f->mR l t (f+1) bh ak=mR l t f bh ak
 |0,bh,ak,h=>by rw[Br l t (by omega),Br l t (by omega)]|f+1,bh,ak,h=>by
  by_cases a:bh<ak
  ·conv=>lhs;unfold mR
   conv=>rhs;unfold mR
   simp only[if_pos a];cases l[(bh+ak) / 2]? with
   |none=>rfl|some x =>
    simp only;split
    ·exact xq l t f _ _ (by omega)
    ·exact xq l t f _ _ (by omega)
  ·rw[Br l t (by omega),Br l t (by omega)]
theorem aa3(l:List I)(t:I){f:Nat}(h:ak-bh<=f)(a:bh<ak){x:I}(ah:l[(bh+ak) / 2]?=some x) :
  mR l t f bh ak=if cf x t<0 then mR l t f ((bh+ak) / 2+1) ak else mR l t f bh ((bh+ak) / 2):=by
 cases f with
 |zero=>omega|succ f =>
  conv=>lhs;unfold mR
  simp only[if_pos a,ah];rw[xq l t f _ _ (by omega),xq l t f _ _ (by omega)]
def jU(l:List I)(t:I):Nat:=mR l t l.length 0 l.length
def vC(l:List I)(t:I):List I:=match l[jU l t]? with
 |some x=>if cf x t=0 then l else l.take (jU l t)++t::l.drop (jU l t)|none=>l.take (jU l t)++t::l.drop (jU l t)
theorem auu(l:List I)(t:I):(vC l t).length<=l.length+1:=by
 unfold vC;have h:∀n,(l.take n++t::l.drop n).length<=l.length+1:=fun n=>by simp only[List.length_append,LW,List.length_take,List.length_drop];omega
 split
 ·split
  ·omega
  ·exact h _
 ·exact h _
def vD(l:List I)(r:List I):List I:=r.foldl vC l
theorem aa4:∀(r l:List I),(vD l r).length<=l.length+r.length
 |[],l=>by simp[vD]|t::r,l=>by
  have h:=aa4 r (vC l t);have U:=auu l t;simp only[vD,List.foldl_cons,LW]at h ⊢;omega
def vE(f:I):I:=.mk [116,114,117,101] [f]
def sJ(r j:I):I:=.mk [100,111,101,115] [r,j]
def vF(state auv auw:List I):List I:=vD [] (state.map vE++List.zipWith sJ auw auv)
end AM
