/- An abstract machine, and what of the given program it does, part 10. Conditions: none. -/
import Derived.Test.YtanepioeppghhaaGreatDoorAm8
set_option linter.unusedVariables false
namespace AM
open Option renaming map_some -> aKg,bind_some -> aKi
open List renaming replicate -> aKh,getElem?_set_ne -> aKj
open Go
section
variable {P:Program}{gl:cp}{D:bc}{env env2:Env}{H H':List ax}
theorem GJ:∀(us vs:List (Nat×cW))(env:Env),(∀p∈us,∀q∈vs,p.1≠q.1)->et (et env us) vs=et (et env vs) us:=by
 have one:∀(vs:List (Nat×cW))(env:Env)(t:Nat)(x:cW),(∀q∈vs,t≠q.1)->et (env.ins t x) vs=(et env vs).ins t x:=by
  intro vs;induction vs with
  |nil=>intro env t x _;rfl|cons q vs ih =>
   intro env t x h;obtain⟨u,y⟩:=q;simp only[et];rw[<-ih (env.ins u y) t x fun q a=>h q (by simp[a]),Env.Gx _ _ _ (h (u,y) (by simp))]
 intro us;induction us with
 |nil=>intro vs env _;rfl|cons p us ih =>
  intro vs env h;obtain⟨t,x⟩:=p;simp only[et];rw[ih vs (env.ins t x) fun p ao=>h p (by simp[ao]),one vs env t x fun q a=>h (t,x) (by simp) q a]
variable {n id:Nat}
theorem Da :(H++aKh n .dead)[id]?=H[id]?\/(H[id]?=none/\(H++aKh n .dead)[id]?=some .dead):=by grind
variable {p:lj}
theorem ak1{m:Nat} :bC ⟨env,H++aKh n .dead⟩ m p=bC ⟨env,H⟩ m p:=by
 cases p with
 |ee t off=>rfl|jf cs=>rfl|ao id off =>
  simp only[bC];rcases Da (H:=H) (n:=n) (id:=id)with h|⟨a,U⟩
  ·rw[h]
  ·rw[a,U]
variable {o:cz}
theorem Tv(h:br o=5):(∃d y,o=.len d 2 y)\/(∃ks d m k z ok,o=.look ks d m k z ok)\/(∃d it,o=.nR d it)\/∃d y n ag,o=.on 4 (.ld d y n ag):=by
 cases o
 case len d m y =>
  simp only[br]at h;split at h
  ·simp_all
  ·cases h
 case look=>exact .inr (.inl ⟨_,_,_,_,_,_,rfl⟩)
 case nR=>exact .inr (.inr (.inl ⟨_,_,rfl⟩))
 case on m a =>
  cases a<;>simp only[br]at h
  case ld d y n ag =>
   split at h
   ·cases h
   ·split at h
    ·simp_all
    ·split at h<;>cases h
  all_goals first|(cases h;done)|(repeat' (first|(cases h;done)|split at h))
 all_goals cases h
theorem LK(hk:br o=5):aH gl ⟨env,H++aKh n .dead⟩ o=(aH gl ⟨env,H⟩ o).map (nt (H++aKh n .dead)):=by
 rcases Tv hk with⟨d,y,rfl⟩|⟨ks,d,m,k,z,ok,rfl⟩|⟨d,it,rfl⟩|⟨d,y,k,ag,rfl⟩
 ·simp only[aH];split
  ·split
   ·exact hS
   ·rfl
  ·split
   ·exact hS
   ·rfl
  ·split
   ·exact hS
   ·rfl
  ·split
   ·exact hS
   ·rfl
  ·split
   ·exact hS
   ·rfl
  ·split
   ·exact hS
   ·rfl
  ·rename_i id _;simp only[if_true];rcases Da (H:=H) (n:=n) (id:=id)with h|⟨a,U⟩
   ·rw[h];split
    ·exact hS
    ·rfl
   ·rw[a,U];rfl
  ·rfl
 ·simp only[aH];split
  ·rename_i id g _ _;rcases Da (H:=H) (n:=n) (id:=id)with h|⟨a,U⟩
   ·rw[h]
    repeat' (first|exact hS|rfl|split)
   ·rw[a,U];rfl
  ·repeat' (first|exact hS|rfl|split)
  ·rfl
 ·simp only[aH];split
  ·rename_i id _;rcases Da (H:=H) (n:=n) (id:=id)with h|⟨a,U⟩
   ·rw[h];split
    ·rename_i b since seen _;rcases Da (H:=H) (n:=n) (id:=b)with c|⟨e,f⟩
     ·rw[c];split
      ·split
       ·exact qx fun v=>hS
       ·rfl
      ·rfl
     ·rw[e,f];rfl
    ·rfl
   ·rw[a,U];rfl
  ·rfl
 ·by_cases hm:ew env y=4
  ·rw[kS (s:=⟨env,H++aKh n ax.dead⟩) (o:=.ld d y k ag) hm,kS (s:=⟨env,H⟩) (o:=.ld d y k ag) hm];simp only[aH];refine qx fun p=>?_;rw[ak1];refine qx fun cs=>?_;split
   ·exact hS
   ·split
    ·exact hS
    ·rfl
  ·rw[kT (s:=⟨env,H++aKh n ax.dead⟩) (o:=.ld d y k ag) hm,kT (s:=⟨env,H⟩) (o:=.ld d y k ag) hm];rfl
variable {s s1:an}
theorem LL(hk:br o=5)(h:aH gl s o=some s1):s1.heap=s.heap:=by
 have:=LK (gl:=gl) (env:=s.env) (H:=s.heap) (n:=0) hk;simp only[List.replicate_zero,List.append_nil]at this;rw[show(⟨s.env,s.heap⟩:an)=s from rfl,h]at this;simp only[aKg,Option.some.injEq]at this;rw[this];rfl
variable {K:an->Prop}
theorem yN(hk:br o=5):c8 P gl D s K o↔∃s1,aH gl s o=some s1/\K s1:=by
 refine GB ?_;rcases Tv hk with⟨d,y,rfl⟩|⟨ks,d,m,k,z,ok,rfl⟩|⟨d,it,rfl⟩|⟨d,y,k,ag,rfl⟩<;>rfl
theorem Tw(hk:br o=5\/br o=6)(bp:c8 P gl D s K o):c8 P gl D s (fun s'=>K s'/\∃n,s'.heap=s.heap++aKh n .dead) o:=by
 rcases hk with hk|hk
 ·obtain⟨s1,b,U⟩:=(yN hk).1 bp;exact(yN hk).2 ⟨s1,b,U,0,by simp[LL hk b]⟩
 ·obtain⟨d,f,xs,rfl⟩:=Tj hk;simp only[c8]at bp ⊢;split at bp
  ·refine bp.mono fun r H' a=>⟨a.1,?_⟩;obtain⟨⟨n,c⟩,a⟩:=a;cases ao:({ s with heap:=H' }:an).fr d r with
   |none=>rw[ao]at a;exact a.elim|some s' =>
    rw[ao]at a;refine⟨a,n,?_⟩;have:s'.heap=H':=by
     cases d with
     |none=>simp[an.fr]at ao;rw[<-ao]|some d=>simp only[an.fr,an.put]at ao;split at ao<;>simp at ao;rw[<-ao]
    rw[this,c]
  ·exact bp.elim
variable {a:cz}
theorem GK{W:List Nat}{k:Nat}{us:List (Nat×cW)}(aE:br a=5)(g:∀t∈W,t∉dn a/\t∉dz a)(h:lC W k env us):∃d:Option (List (Nat×cW)),(∀b,d=some b->∀p∈b,p.1∈dz a) /\
  aH gl ⟨env,H⟩ a=d.map (fun b=>⟨et env b,H⟩)/\aH gl ⟨et env us,H++aKh n .dead⟩ a=d.map fun b=>⟨et (et env b) us,H++aKh n .dead⟩:=by
 have cc:∀t,t∈dn a\/t∈dz a->∀p∈us,p.1≠t:=fun t c p ao e=>by
  obtain⟨i,j⟩:=g _ (h.mem p ao);rw[e]at i j;rcases c with c|c
  ·exact i c
  ·exact j c
 have f:Alike a env (et env us):=⟨fun t c=>pF (tw (cc t (.inl c))),fun t c=>pF (tw (cc t (.inr c))),(fun e=>by rw[aE]at e;cases e),(fun e=>by rw[aE]at e;cases e)⟩;obtain⟨V,l,U,m⟩:=yF (gl:=gl) (H:=H) (by rw[aE];decide) f;cases V with
 |none =>
  refine⟨none,by simp,U,?_⟩;rw[LK aE,m];rfl
 |some p =>
  obtain⟨b,r⟩:=p;have u:r=H:=LL aE U;subst u;refine⟨some b,fun w e=>by cases e;exact(l _ rfl).mem,U,?_⟩;rw[LK aE,m];simp only[aKg,AN,nt];rw[GJ us b env];intro p ao q v e;exact(g _ (h.mem p ao)).2 (by rw[e];exact(l _ rfl).mem q v)
variable {b:cz}
theorem Tx(aE:br a=5)(ae:br b=5\/br b=6)(O:∀t∈dz a,t∉dn b/\t∉dz b)(r:∀t∈dz b,t∉dn a/\t∉dz a) :
  c8 P gl D s (fun s1=>c8 P gl D s1 K b) a↔c8 P gl D s (fun s1=>c8 P gl D s1 K a) b:=by
 have ah:w6 (br b)=true:=by rcases ae with h|h<;>rw[h]<;>rfl
 have Q:Alike b s.env s.env:=⟨fun _ _=>rfl,fun _ _=>rfl,fun _ _ _=>rfl,fun _ _ _=>Iff.rfl⟩;have u:∀c:List (Nat×cW),(∀p∈c,p.1∈dz a)->Alike b (et s.env c) s.env/\Alike b s.env (et s.env c):=by
  intro c v;have l:∀t,t∈dn b\/t∈dz b->(et s.env c).get t=s.env.get t:=fun t d=>tw fun p ao e=>by
   obtain⟨A,B⟩:=O _ (v p ao);rw[e]at A B;rcases d with d|d
   ·exact A d
   ·exact B d
  have U:br b≠2:=by rcases ae with h|h<;>rw[h]<;>decide
  have C:br b≠7:=by rcases ae with h|h<;>rw[h]<;>decide
  exact⟨⟨fun t d=>(pF (l t (.inl d))).symm,fun t d=>(pF (l t (.inr d))).symm,fun e=>absurd e U,fun e=>absurd e C⟩,
   ⟨fun t d=>pF (l t (.inl d)),fun t d=>pF (l t (.inr d)),fun e=>absurd e U,fun e=>absurd e C⟩⟩
 constructor
 ·intro bp;obtain⟨s1,he,bp⟩:=(yN aE).1 bp;obtain⟨w,m,g,_⟩:=GK (gl:=gl) (W:=[]) (k:=0) (env:=s.env) (H:=s.heap) (us:=[]) (n:=0) aE (by simp) ⟨by simp,by simp,by simp,by simp,.inl (by simp)⟩;rw[show(⟨s.env,s.heap⟩:an)=s from rfl,he]at g;cases w with
  |none=>cases g|some c =>
   simp only[aKg,Option.some.injEq]at g;subst g;have bp:=Tw ae bp;refine(yJ (K2:=fun s1=>c8 P gl D s1 K a) ah (u c (m c rfl)).1 (fun us H' x f=>?_) bp).1;obtain⟨f,n,i⟩:=f;simp only at i;subst i;have y:=Tr x (u c (m c rfl)).1.wr;obtain⟨z,_,j,q⟩:=GK (gl:=gl) (H:=s.heap) (n:=n) aE r y;rw[show(⟨s.env,s.heap⟩:an)=s from rfl,he]at j;cases z with
   |none=>cases j|some E =>
    simp only[aKg,Option.some.injEq,an.mk.injEq,and_true]at j;refine(yN aE).2 ⟨_,q,?_⟩;show K ⟨et (et s.env E) us,_⟩;rw[<-j];exact f
 ·intro bp;have bp:=Tw ae bp;have F:c8 P gl D ⟨s.env,s.heap⟩ (fun G=>c8 P gl D G K a/\∃n,G.heap=s.heap++aKh n .dead) b:=bp;obtain⟨X,Y,y,R,S,J⟩:=(yJ (K2:=fun _=>True) ah Q (fun _ _ _ _=>trivial) F).2;simp only at J;subst J;obtain⟨Z,T,_⟩:=(yN aE).1 R;obtain⟨w,m,g,L⟩:=GK (gl:=gl) (H:=s.heap) (n:=S) aE r y;rw[T]at L;cases w with
  |none=>cases L|some c =>
   refine(yN aE).2 ⟨_,g,?_⟩;refine(yJ (K2:=K) ah (u c (m c rfl)).2 (fun us H' x f=>?_) F).1;obtain⟨f,n,i⟩:=f;simp only at i;subst i;obtain⟨jj,V,Tu⟩:=(yN aE).1 f;obtain⟨z,_,j,q⟩:=GK (gl:=gl) (H:=s.heap) (n:=n) aE r x;rw[V]at q;cases z with
   |none=>cases q|some E=>grind
theorem ak4{c d:Nat}{es es2:List (AV×AV)}(h:H[id]?=some (.map c es)) :bC ⟨env,H.set id (.map d es2)⟩ n p=bC ⟨env,H⟩ n p:=by
 cases p with
 |ee t off=>rfl|jf cs=>rfl|ao i off =>
  simp only[bC];by_cases e:id=i
  ·grind
  ·rw[aKj e]
variable {ks:List Nat}{d:Nat}{m k:aI}{z:AV}
theorem ak5(h:aH gl s (.h8 ks d m k z)=some s1)(env:Env)(n:Nat)(p:lj):bC ⟨env,s1.heap⟩ n p=bC ⟨env,s.heap⟩ n p:=by
 have e:∀{t:an}{y:AV}{c:an},t.put d y=some c->c.heap=t.heap:=by
  intro t y c ao;simp only[an.put]at ao;split at ao
  ·simp at ao;rw[<-ao]
  ·cases ao
 simp only[aH]at h
 repeat' (first|(cases h;done)|split at h)
 all_goals first
  |(rw[e h];done)|(rw[e h];exact ak4 (by assumption))
variable {y:aI}{ag:Bool}
theorem ak6(h:∀n p,bC ⟨env,H'⟩ n p=bC ⟨env,H⟩ n p):aH gl ⟨env,H'⟩ (.on 4 (.ld d y n ag))=(aH gl ⟨env,H⟩ (.on 4 (.ld d y n ag))).map (nt H'):=by
 by_cases hm:ew env y=4
 ·rw[kS (s:=⟨env,H'⟩) (o:=.ld d y n ag) hm,kS (s:=⟨env,H⟩) (o:=.ld d y n ag) hm];simp only[aH];refine qx fun p=>?_;rw[h];refine qx fun cs=>?_;split
  ·exact hS
  ·split
   ·exact hS
   ·rfl
 ·rw[kT (s:=⟨env,H'⟩) (o:=.ld d y n ag) hm,kT (s:=⟨env,H⟩) (o:=.ld d y n ag) hm];rfl
variable {h3:Nat}
theorem ak7(A:∀t∈dz (.on 4 (.ld d y n ag)),t∉dn (.h8 ks h3 m k z)/\t∉dz (.h8 ks h3 m k z))(r:∀t∈dz (.h8 ks h3 m k z),t∉dn (.on 4 (.ld d y n ag))/\t∉dz (.on 4 (.ld d y n ag))) :
  ((aH gl s (.on 4 (.ld d y n ag))).bind fun s1=>aH gl s1 (.h8 ks h3 m k z))=(aH gl s (.h8 ks h3 m k z)).bind fun s1=>aH gl s1 (.on 4 (.ld d y n ag)):=by
 generalize aE:cz.on 4 (.ld d y n ag)=a at A r ⊢;generalize ae:cz.h8 ks h3 m k z=b at A r ⊢;have u:br a=5:=by rw[<-aE];rfl
 have B:br b=4:=by rw[<-ae];rfl
 obtain⟨env,H⟩:=s;have S:∀us:List (Nat×cW),(∀p∈us,p.1∈dz b)->Alike a env (et env us):=by
  intro us E;have cc:∀t,t∈dn a\/t∈dz a->∀p∈us,p.1≠t:=fun t c p ao e=>by
   obtain⟨h,i⟩:=r _ (E p ao);rw[e]at h i;rcases c with c|c
   ·exact h c
   ·exact i c
  exact⟨fun t c=>pF (tw (cc t (.inl c))),fun t c=>pF (tw (cc t (.inr c))),(fun e=>by rw[u]at e;cases e),(fun e=>by rw[u]at e;cases e)⟩
 have T:∀us:List (Nat×cW),(∀p∈us,p.1∈dz a)->Alike b env (et env us):=by
  intro us E;have cc:∀t,t∈dn b\/t∈dz b->∀p∈us,p.1≠t:=fun t c p ao e=>by
   obtain⟨h,i⟩:=A _ (E p ao);rw[e]at h i;rcases c with c|c
   ·exact h c
   ·exact i c
  exact⟨fun t c=>pF (tw (cc t (.inl c))),fun t c=>pF (tw (cc t (.inr c))),(fun e=>by rw[B]at e;cases e),(fun e=>by rw[B]at e;cases e)⟩
 have F:Alike a env env:=S [] (by simp);have G:Alike b env env:=T [] (by simp);obtain⟨U,J,C,_⟩:=yF (gl:=gl) (H:=H) (by rw[u];decide) F;obtain⟨V,L,v,_⟩:=yF (gl:=gl) (H:=H) (by rw[B];decide) G
 -- a after b
 have cq:∀f H',V=some (f,H')->aH gl ⟨et env f,H'⟩ a=(aH gl ⟨env,H⟩ a).map fun s=>⟨et s.env f,H'⟩:=by
  intro f H' e;obtain⟨X,h,i,O⟩:=yF (gl:=gl) (H:=H) (by rw[u];decide) (S f (L _ e).mem);have Y:=fun n p=>ak5 (gl:=gl) (s:=⟨env,H⟩) (s1:=⟨et env f,H'⟩) (by rw[ae,v,e];rfl) (et env f) n p;have:=ak6 (gl:=gl) (d:=d) (y:=y) (n:=n) (ag:=ag) (H:=H) (H':=H') Y;rw[aE]at this;rw[this,O,i];cases X with
  |none=>rfl|some p =>
   obtain⟨g,l⟩:=p;simp only[aKg,AN,nt];rw[GJ f g env];intro p ao q w e;exact(r _ ((L _ ‹_›).mem p ao)).2 (by rw[e];exact(h _ rfl).mem q w)
 have fl:∀g H',U=some (g,H')->H'=H/\aH gl ⟨et env g,H⟩ b=(aH gl ⟨env,H⟩ b).map fun s=>⟨et s.env g,s.heap⟩:=by
  intro g H' e;have Z:H'=H:=LL (gl:=gl) (s:=⟨env,H⟩) (s1:=⟨et env g,H'⟩) u (by rw[C,e];rfl);refine⟨Z,?_⟩;obtain⟨Q,h,i,O⟩:=yF (gl:=gl) (H:=H) (by rw[B];decide) (T g (J _ e).mem);rw[O,i];cases Q with
  |none=>rfl|some p =>
   obtain⟨f,l⟩:=p;simp only[aKg,AN];rw[GJ g f env];intro p ao q w e;exact(A _ ((J _ ‹_›).mem p ao)).2 (by rw[e];exact(h _ rfl).mem q w)
 cases x:U with
 |none =>
  rw[C,x];simp only[Option.map_none,Option.bind_none];cases j:V with
  |none=>rw[v,j];rfl|some p =>
   obtain⟨f,H'⟩:=p;rw[v,j];simp only[aKg,aKi,AN];rw[cq f H' j,C,x];rfl
 |some p =>
  obtain⟨g,l⟩:=p;obtain⟨rfl,R⟩:=fl g l x;have W:aH gl ⟨env,l⟩ a=some ⟨et env g,l⟩:=by rw[C,x];rfl
  rw[W];simp only[aKi];rw[R];cases j:V with
  |none=>rw[v,j];rfl|some p =>
   obtain⟨f,H'⟩:=p;have aX:aH gl ⟨env,l⟩ b=some ⟨et env f,H'⟩:=by rw[v,j];rfl
   rw[aX];simp only[aKg,aKi];rw[cq f H' j,W];simp only[aKg,Option.some.injEq,an.mk.injEq,and_true];refine(GJ _ _ _ fun p ao q w e=>?_);exact(r _ ((L _ j).mem p ao)).2 (by rw[e];exact(J _ x).mem q w)
theorem TA(aE:∀s K,c8 P gl D s K a↔∃s1,aH gl s a=some s1/\K s1)(ae:∀s K,c8 P gl D s K b↔∃s1,aH gl s b=some s1/\K s1) :
  c8 P gl D s (fun s1=>c8 P gl D s1 K b) a↔∃c,(aH gl s a).bind (fun s1=>aH gl s1 b)=some c/\K c:=by
 rw[aE];constructor
 ·grind
 ·rintro⟨c,e,U⟩;obtain⟨s1,f,g⟩:=bind_some e;exact⟨s1,f,(ae _ _).2 ⟨c,g,U⟩⟩
theorem TB(c:∀t∈dz (.on 4 (.ld d y n ag)),t∉dn (.h8 ks h3 m k z)/\t∉dz (.h8 ks h3 m k z))(e:∀t∈dz (.h8 ks h3 m k z),t∉dn (.on 4 (.ld d y n ag))/\t∉dz (.on 4 (.ld d y n ag))) :
  c8 P gl D s (fun s1=>c8 P gl D s1 K (.h8 ks h3 m k z)) (.on 4 (.ld d y n ag))↔c8 P gl D s (fun s1=>c8 P gl D s1 K (.on 4 (.ld d y n ag))) (.h8 ks h3 m k z):=by
 have aE:∀(s:an)K,c8 P gl D s K (.on 4 (.ld d y n ag))↔∃s1,aH gl s (.on 4 (.ld d y n ag))=some s1/\K s1:=fun s K=>GB rfl;have ae:∀(s:an)K,c8 P gl D s K (.h8 ks h3 m k z)↔∃s1,aH gl s (.h8 ks h3 m k z)=some s1/\K s1:=fun s K=>GB rfl;rw[TA aE ae,TA ae aE,ak7 c e]
end
section
variable {P:Program}{gl:cp}{D:bc}{env env2:Env}{H H':List ax}
variable {s s1:an}
theorem LN{vs:List AV}{p:lj}(az:s.env.dQ)(h:bz s vs p=some s1):s1.env.dQ:=by
 cases p<;>simp only[bz]at h
 ·split at h
  ·split at h
   ·simp at h;subst h;exact Env.dQ.ins az _ _
   ·cases h
  ·cases h
 ·grind
 ·cases h
theorem LO{t:Nat}{y:AV}(az:s.env.dQ)(h:s.put t y=some s1):s1.env.dQ:=by
 simp only[an.put]at h;split at h
 ·simp at h;subst h;exact Env.dQ.ins az _ _
 ·cases h
variable {o:cz}{K:an->Prop}
theorem alc(hk:br o≠9)(az:s.env.dQ)(bp:c8 P gl D s K o) :
  c8 P gl D s (fun s'=>K s'/\s'.env.dQ/\∀t,t∉dz o->dI s'.env t=dI s.env t) o/\∃s',K s'/\s'.env.dQ/\∀t,t∉dz o->dI s'.env t=dI s.env t:=by
 by_cases b:br o=3
 ·have g:gn (br o)=true:=by rw[b];rfl
  obtain⟨u,s1,U,f⟩:=(yG (.inl g)).1 bp;have q:=(Tm g U).1;have r:s1.env.dQ:=by
   obtain⟨m,c,rfl⟩:∃m c,o=.on m c:=by
    cases o<;>first|exact⟨_,_,rfl⟩|(simp[br]at b;done)|skip
    all_goals (simp only[br]at b;split at b<;>cases b)
   have a:aH gl s (.on m c)=some s1:=U;simp only[aH]at a;split at a
   ·cases c<;>simp only[br]at b
    case iv d2 y e sz =>
     simp only[aH]at a;obtain⟨p,_,a⟩:=bind_some a;obtain⟨cs,_,a⟩:=bind_some a;split at a
     ·obtain⟨w,i,j⟩:=bind_some a;exact LO (LN az i) j
     ·exact LO az a
     ·cases a
    case st n y v =>
     simp only[aH]at a;obtain⟨p,_,a⟩:=bind_some a;obtain⟨x,_,a⟩:=bind_some a;split at a
     ·exact LN az a
     ·cases a
    case hP y v =>
     simp only[aH]at a;obtain⟨p,_,a⟩:=bind_some a;split at a
     ·obtain⟨w,i,j⟩:=bind_some a;exact LN (LO az i) j
     ·cases a
    all_goals (first|(cases b;done)|(repeat' (first|(cases b;done)|split at b)))
   ·cases a
  exact⟨(yG (.inl g)).2 ⟨u,s1,U,f,r,q⟩,s1,f,r,q⟩
 ·have ah:w6 (br o)=true:=by
   have:br o=0\/br o=1\/br o=2\/br o=4\/br o=5\/br o=6\/br o=7:=by
    cases o<;>simp only[br]at hk b ⊢<;>first|(simp;done)|skip
    case len d m y=>split<;>simp
    case on m c =>
     cases c<;>simp only at hk b ⊢<;>first|(exact absurd rfl hk)|skip
     all_goals
      first
      |(split<;>simp_all;done)|(split at hk<;>simp_all;done)|(repeat' split)<;>simp_all
    all_goals exact absurd rfl hk
   rcases this with h|h|h|h|h|h|h<;>rw[h]<;>rfl
  have z:Alike o s.env s.env:=⟨fun _ _=>rfl,fun _ _=>rfl,fun _ _ _=>rfl,fun _ _ _=>Iff.rfl⟩;have A:c8 P gl D ⟨s.env,s.heap⟩ K o:=bp;obtain⟨B,us,H',k,C⟩:=yJ (K2:=fun s'=>K s'/\s'.env.dQ/\∀t,t∉dz o->dI s'.env t=dI s.env t) ah z (fun us H' k f =>
   ⟨f,Tl az,fun t l=>pF (tw fun p ao e=>l (e▸k.mem p ao))⟩) A
  exact⟨B,_,C,Tl az,fun t l=>pF (tw fun p ao e=>l (e▸k.mem p ao))⟩
def mL(P:Program)(gl:cp)(D:bc)(s:an)(K:an->Prop)(it:bk):Prop:=match l1 s.env it.g with
 |some true=>c8 P gl D s K it.o|some false=>(match iA it.o with
  |some d=>(match s.put d (.a8 [])with|some s'=>K s'|none=>False)|none=>K s)
 |none=>False
variable {it:bk}
theorem Dd{r:List bk} :jL P gl D (it::r) s K↔mL P gl D s (fun s'=>jL P gl D r s' K) it:=by
 simp only[jL,mL];all_goals rfl
variable {K':an->Prop}
theorem GM(hk:∀s,K s->K' s)(h:mL P gl D s K it):mL P gl D s K' it:=by
 simp only[mL]at h ⊢;split at h
 ·exact Gv h hk
 ·grind
 ·exact h
def pG(it:bk):Bool->Option cz
 |true=>some it.o|false=>(iA it.o).map fun d=>.ho d (.c (.a8 []))
def tz(P:Program)(gl:cp)(D:bc)(s:an)(K:an->Prop):Option cz->Prop
 |some o=>c8 P gl D s K o|none=>K s
theorem ald{d:Nat} :c8 P gl D s K (.ho d (.c (.a8 [])))↔(match s.put d (.a8 [])with|some s'=>K s'|none=>False):=by
 simp only[c8,aH,bg,aKi,AV.aW];all_goals exact Iff.rfl
variable {b:Bool}
theorem De(a:l1 s.env it.g=some b):mL P gl D s K it↔tz P gl D s K (pG it b):=by
 simp only[mL,a];cases b with
 |true=>exact Iff.rfl|false =>
  simp only[pG];cases iA it.o with
  |none=>exact Iff.rfl|some d=>exact(ald (P:=P) (gl:=gl) (D:=D)).symm
def GN(it:bk):List Nat:=match it.g with|some (t,_)=>[t]|none=>[]
theorem TC{g:Option (Nat×Bool)}(h:∀t b,g=some (t,b)->dI env2 t=dI env t):l1 env2 g=l1 env g:=by
 cases g with
 |none=>rfl|some p =>
  obtain⟨t,b⟩:=p;simp only[l1];rcases qw (h t b rfl)with h|⟨cs,a,c,U⟩
  ·rw[h]
  ·rw[c,U]
def LQ(i j:Nat):Bool:=(i==5&&(j==5||j==6))||(i==6&&j==5)
variable {n:Nat}
theorem TD{H H':List ax}{x u:Option AV}(h:pv b n H x u=some H'):∃id off v f,x=some (.ptr id off)/\u=some v /\
  ((b=false/\∃cs,H[id]?=some (.cells cs)/\∃cs',f=.cells cs')\/(b=true/\∃e cs,H[id]?=some (.buf e cs)/\∃cs',f=.buf e cs'))/\H'=H.set id f /\
  ∀a:List ax,a[id]?=H[id]?->pv b n a x u=some (a.set id f):=by
 unfold pv at h;split at h
 ·rename_i id off v;split at h
  ·rename_i cs c;split at h
   ·rename_i d;simp only[Option.some.injEq]at h;refine⟨id,off,v,_,rfl,rfl,.inl ⟨d.1,cs,c,_,rfl⟩,h.symm,fun a U=>?_⟩;simp only[pv,U,c];rw[if_pos d]
   ·cases h
  ·rename_i e cs c;split at h
   ·rename_i d;simp only[Option.some.injEq]at h;refine⟨id,off,v,_,rfl,rfl,.inr ⟨d.1,e,cs,c,_,rfl⟩,h.symm,fun a U=>?_⟩;simp only[pv,U,c];rw[if_pos d]
   ·cases h
  ·cases h
 ·cases h
theorem ale{a:Bool}(ae:b≠a){n':Nat}{x v c d:aI}(bp:c8 P gl D s (fun s1=>c8 P gl D s1 K (.lf a n' c d)) (.lf b n x v)) :
  c8 P gl D s (fun s1=>c8 P gl D s1 K (.lf b n x v)) (.lf a n' c d):=by
 simp only[c8,aH]at bp ⊢;cases e:pv b n s.heap (bg gl s.env x) (bg gl s.env v)with
 |none=>rw[e]at bp;exact bp.elim|some H1 =>
  rw[e]at bp;simp only[aKg]at bp;cases U:pv a n' H1 (bg gl s.env c) (bg gl s.env d)with
  |none=>rw[U]at bp;exact bp.elim|some p =>
   rw[U]at bp;simp only[aKg]at bp;obtain⟨i,q,cv,f,r,t,u,rfl,k⟩:=TD e;obtain⟨j,w,y,g,z,A,B,rfl,l⟩:=TD U;have h:i≠j:=by grind
   have m:s.heap[j]?=(s.heap.set i f)[j]?:=by rw[aKj h]
   rw[l s.heap m];simp only[aKg];rw[k (s.heap.set j g) (by rw[aKj (Ne.symm h)])];simp only[aKg];rw[List.set_comm _ _ (Ne.symm h)];exact bp
def GO:cz->cz->Bool
 |.on 4 (.ld _ _ _ _),.h8 _ _ _ _ _=>true|.h8 _ _ _ _ _,.on 4 (.ld _ _ _ _)=>true|.lf b _ _ _,.lf bU _ _ _=>b != bU|_,_=>false
theorem alh{a b:cz}(h:GO a b=true):(∃d y n ag ks e m k z,a=.on 4 (.ld d y n ag)/\b=.h8 ks e m k z)\/(∃d y n ag ks e m k z,b=.on 4 (.ld d y n ag)/\a=.h8 ks e m k z)\/∃c n x v f n' g i,c≠f/\a=.lf c n x v/\b=.lf f n' g i:=by
 unfold GO at h;split at h
 ·grind
 ·grind
 ·grind
 ·cases h
def indep(a b:bk):Bool :=
 GF (dz a.o) (GN b++(dn b.o++dz b.o))&&GF (dz b.o) (GN a++(dn a.o++dz a.o)) &&
 (pE (br a.o) (br b.o)||LQ (br a.o) (br b.o)||GO a.o b.o)&&pE (br a.o) 0&&pE 0 (br b.o)
theorem yO(h:pG it b=some o):(∀t∈dz o,t∈dz it.o)/\(∀t∈dn o,t∈dn it.o)/\(o=it.o\/br o=0):=by
 cases b with
 |true=>simp[pG]at h;subst h;exact⟨fun _ h=>h,fun _ h=>h,.inl rfl⟩|false =>
  simp only[pG,Option.map_eq_some_iff]at h;obtain⟨d,hd,rfl⟩:=h;refine⟨fun t a=>?_,fun t a=>by simp[dn,cC]at a,.inr rfl⟩;simp[dz,iA,rr]at a;subst a;exact e8 hd
variable {e:Option cz}
theorem LR(hk:∀o,e=some o->br o≠9)(az:s.env.dQ)(bp:tz P gl D s K e) :
  tz P gl D s (fun s'=>K s'/\s'.env.dQ/\∀t,(∀o,e=some o->t∉dz o)->dI s'.env t=dI s.env t) e/\∃s',K s'/\s'.env.dQ/\∀t,(∀o,e=some o->t∉dz o)->dI s'.env t=dI s.env t:=by
 cases e with
 |none=>exact⟨⟨bp,az,fun _ _=>rfl⟩,s,bp,az,fun _ _=>rfl⟩|some o =>
  obtain⟨d,s',U,f,g⟩:=alc (hk o rfl) az bp;exact⟨Gv d fun s' a=>⟨a.1,a.2.1,fun t c=>a.2.2 t (c o rfl)⟩,s',U,f,fun t c=>g t (c o rfl)⟩
theorem LS(h:tz P gl D s K e)(hk:∀s,K s->K' s):tz P gl D s K' e:=by
 cases e with
 |none=>exact hk _ h|some o=>exact Gv h hk
theorem TE(hk:br it.o≠9)(az:s.env.dQ)(h:mL P gl D s K it):mL P gl D s (fun s'=>K s'/\s'.env.dQ) it:=by
 cases a:l1 s.env it.g with
 |none=>simp only[mL,a]at h|some b =>
  rw[De a]at h ⊢;refine LS (LR (fun o aA=>?_) az h).1 fun s' c=>⟨c.1,c.2.1⟩;rcases(yO aA).2.2 with rfl|d
  ·exact hk
  ·rw[d];decide
theorem ali{a b:bk}(u:br a.o≠9)(w:br b.o≠9)(az:s.env.dQ)(h:indep a b=true)(bp:mL P gl D s (fun s1=>mL P gl D s1 K b) a):mL P gl D s (fun s1=>mL P gl D s1 K a) b:=by
 simp only[indep,Bool.and_eq_true]at h;obtain⟨⟨⟨⟨X,Y⟩,ao⟩,kr⟩,nn⟩:=h;cases A:l1 s.env a.g with
 |none=>simp only[mL,A]at bp|some tx =>
  rw[De A]at bp;have B:∀o,pG a tx=some o->br o≠9:=fun o aA=>by
   rcases(yO aA).2.2 with rfl|C
   ·exact u
   ·rw[C];decide
  obtain⟨E,pz,C8,lF,F⟩:=LR B az bp
  -- the guard of b
  have Z:∀g:an,(∀t,(∀o,pG a tx=some o->t∉dz o)->dI g.env t=dI s.env t)->l1 g.env b.g=l1 s.env b.g:=fun g ar=>TC fun t j G=>ar t fun o aA J=>by
   have:=GG X ((yO aA).1 t J);exact this (by simp[GN,G])
  cases ae:l1 s.env b.g with
  |none =>
   have:=Z pz F;rw[ae]at this;simp only[mL,this]at C8
  |some j =>
   have L:∀o,pG b j=some o->br o≠9:=fun o aA=>by
    rcases(yO aA).2.2 with rfl|C
    ·exact w
    ·rw[C];decide
   have f:tz P gl D s (fun s1=>tz P gl D s1 K (pG b j)) (pG a tx):=LS E fun g l=>by
    have:=Z g l.2.2;rw[ae]at this;exact(De this).1 l.1
   rw[De ae]
   -- the exchange
   have O:tz P gl D s (fun s1=>tz P gl D s1 K (pG a tx)) (pG b j):=by
    cases q:pG a tx with
    |none=>rw[q]at f;exact f|some i =>
     cases Q:pG b j with
     |none=>rw[q,Q]at f;exact f|some bA =>
      rw[q,Q]at f;simp only[tz]at f ⊢;obtain⟨TF,R,r⟩:=yO q;obtain⟨TG,GQ,S⟩:=yO Q;have sx:∀t∈dz i,t∉dn bA/\t∉dz bA:=fun t T=>by
       have:=GG X (TF t T);simp only[List.mem_append,not_or]at this;exact⟨fun h=>this.2.1 (GQ t h),fun h=>this.2.2 (TG t h)⟩
      have p:∀t∈dz bA,t∉dn i/\t∉dz i:=fun t T=>by
       have:=GG Y (TG t T);simp only[List.mem_append,not_or]at this;exact⟨fun h=>this.2.1 (R t h),fun h=>this.2.2 (TF t h)⟩
      have U:pE (br i) (br bA)=true\/LQ (br i) (br bA)=true\/GO i bA=true:=by
       rcases r with rfl|r
       ·grind
       ·rcases S with rfl|S
        ·rw[r];exact .inl nn
        ·rw[r,S];exact .inl rfl
      rcases U with cn|vd|AS
      ·exact swap az ⟨sx,p,cn⟩ f
      ·simp only[LQ,Bool.or_eq_true,Bool.and_eq_true,beq_iff_eq]at vd;rcases vd with⟨V,W⟩|⟨dO,V⟩
       ·exact(Tx V W sx p).1 f
       ·exact(Tx V (.inr dO) p sx).2 f
      ·rcases alh AS with⟨d,y,n,ag,ks,h3,m,k,z,rfl,rfl⟩|⟨d,y,n,ag,ks,h3,m,k,z,rfl,rfl⟩|⟨c,n,x,v,ia,n',bx,cQ,cc,rfl,rfl⟩
       ·exact(TB sx p).1 f
       ·exact(TB p sx).2 f
       ·exact ale cc f
   -- the guard of a
   refine LS (LR L az O).1 fun g l=>?_;have:l1 g.env a.g=l1 s.env a.g:=TC fun t aGN G=>l.2.2 t fun o aA J=>by
    have:=GG Y ((yO aA).1 t J);exact this (by simp[GN,G])
   rw[A]at this;exact(De this).2 l.1
end
end AM
