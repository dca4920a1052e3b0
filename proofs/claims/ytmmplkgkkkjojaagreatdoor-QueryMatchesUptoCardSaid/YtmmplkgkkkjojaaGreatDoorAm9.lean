/- An abstract machine, and what of the given program it does, part 10. Conditions: none. -/
import Derived.Test.YtmmplkgkkkjojaaGreatDoorAm8
import Derived.ChangeSame
import Derived.OpenShut
import Derived.LaidLaws
set_option linter.unusedSimpArgs false
set_option linter.unusedVariables false
namespace AM
open List renaming length_cons -> aKQ,mem_append -> aKR,mem_cons_of_mem -> aKS,mem_filter -> aKT,mem_map -> aKV,mem_flatMap -> aKW,pairwise_cons -> aKX,mem_cons -> aKY,length_append -> aKZ,map_cons -> aK0,all_eq_true -> aK2,length_nil -> aK3,suffix_rfl -> aK6,contains_eq_mem -> aK7,mem_singleton -> aK8,find?_cons -> aK9
open Option renaming map_eq_some_iff -> aKU,bind_eq_some_iff -> aK4
open Bool renaming and_eq_true -> aK1,false_eq_true -> aK5
open Nat renaming mul_le_mul_right -> aLa
open Go
mutual
def jt:I->Nat|.mk _ l=>1+oE l
def oE:List I->Nat|[]=>0|t::r=>jt t+oE r
end
theorem TC:∀{l:List I}{t:I},t∈l->jt t<=oE l
 |u::l,t,h=>by
  simp only[oE];rcases aKY.1 h with rfl|h
  ·omega
  ·have:=TC h;omega
theorem DL(t:I):1<=jt t:=by cases t;simp only[jt];omega
theorem ak8:∀l:List I,l.length<=oE l
 |[]=>by simp|t::r=>by have:=ak8 r;have:=DL t;simp only[aKQ,oE];omega
variable {k:Nat}
theorem TD :∀(n:Nat)(t:I),jt t<=n->n<=60->fH k t->fH 59 t
 |0,t,h,_,_=>by have:=DL t;omega|n+1,.mk b l,h,c,aE=>by
  simp only[jt]at h;simp only[fH,DI]at aE ⊢;have:=ak8 l;exact⟨aE.1,am,λu a=>TD n u (by have:=TC a;omega) am (aE.2.2 u a)⟩
theorem Lu:∀(n:Nat)(t:I),jt t<=n->cc t<=n
 |0,t,h=>by have:=DL t;omega|n+1,.mk b l,h=>by
  simp only[jt]at h;have key:∀l:List I,oE l<=n->ja l<=n:=λl=>by
   induction l with
   |nil=>intro _;simp[ja]|cons u r ih =>
    intro a;simp only[oE]at a;have c:=Lu n u am;have d:=ih am;simp only[ja];omega
  have:=key l am;simp only[cc];omega
variable {t:I}
theorem TE{d:Nat}(h:cc t<=d+1):∀u∈t.args,cc u<=d:=λu a=>by
 have:=Av a;rw[u4]at h;omega
variable {m:Int}
theorem ak9{f:I->Int} :∀(l:List I)(n:Int),(∀t∈l,1<=f t)->ki f m l n<=m->n+(l.map f).sum=ki f m l n
 |[],n,_,_=>by simp[ki]|t::r,n,h,hm=>by
  have c:=h t be;by_cases a:n>m
  ·simp only[ki,if_pos a]at hm;omega
  ·simp only[ki,if_neg a]at hm ⊢;have:=ak9 r (n+f t) (λu b=>h u (aKS _ b)) hm;simp only[aK0,List.sum_cons];omega
theorem ala(hm:0<=m/\m<=1000):∀(d:Nat)(t:I),j6 m d t<=m->(jt t:Int)<=j6 m d t
 |0,t,h=>by
  simp only[j6]at h;omega
 |d+1,.mk f l,h=>by
  rw[ahl]at h ⊢;simp only[I.args]at h ⊢;have ae:=λu(a:u∈l)=>(Kl hm d u).1;have ax:=ak9 l 1 ae h;have c:=QT l 1 ae am h;have key:∀l:List I,(∀u∈l,(jt u:Int)<=j6 m d u)->(oE l:Int)<=(l.map (j6 m d)).sum:=λl=>by
   induction l with
   |nil=>intro _;simp[oE]|cons u r ih =>
    intro b;have g:=b u be;have i:=ih λw e=>b w (aKS _ e);simp only[oE,aK0,List.sum_cons];omega
  have j:=key l λu a=>ala hm d u (c.2 u a);simp only[jt];omega
theorem TF{m:Nat}(hm:m<=1000)(h:lM m t=true):jt t<=m:=by
 simp only[lM,decide_eq_true_eq]at h;have:=ala (m:=m) ⟨am,am⟩ _ t h;omega
def pn:Nat->Nat|0=>0|d+1=>1048579+59*pn d
theorem TG:∀(d:Nat)(t:I),fH 59 t->cc t<=d->(fy t).length+1<=pn d
 |0,t,_,h=>by rw[u4]at h;omega|d+1,.mk g l,aE,h=>by
  have hd:=TE h;simp only[fH,DI]at aE;have key:∀l:List I,(∀u∈l,(fy u).length+1<=pn d)->(iA l).length<=l.length*pn d:=λl=>by
   induction l with
   |nil=>intro _;simp[iA]|cons u r ih =>
    intro a;have e:=a u be;have b:=ih λw f=>a w (aKS _ f);simp only[iA,aKZ,aKQ,aK3,Nat.add_mul,Nat.one_mul]at b ⊢;omega
  have e:=key l λu c=>TG d u (aE.2.2 u c) (hd u c);have b:l.length*pn d<=59*pn d:=aLa _ aE.2.1;simp only[fy,pn,aKZ,aKQ,aK3];omega
theorem aJ8:pn 4<=M/\pn 3=3713018239:=by
 have:M=1099511627776:=rfl;rw[this];decide
theorem alb :∀(n:Nat)(t:I),fH k t->jt t<=n->(fy t).length+1<=jt t*1048579
 |0,t,_,h=>by have:=DL t;omega|n+1,.mk f l,aE,h=>by
  simp only[fH,DI]at aE;simp only[jt]at h ⊢;have key:∀l:List I,(∀u∈l,(fy u).length+1<=jt u*1048579)->(iA l).length<=oE l*1048579:=λl=>by
   induction l with
   |nil=>intro _;simp[iA]|cons u r ih =>
    intro a;have c:=a u be;have d:=ih λw e=>a w (aKS _ e);simp only[iA,oE,aKZ,aKQ,aK3]at d ⊢;omega
  have c:=key l λu b=>alb n u (aE.2.2 u b) (by have:=TC b;omega);simp only[fy,aKZ,aKQ,aK3];omega
theorem TH(a:(fy t).length<=1000000000000)(b:cc t<=1000000):qX t=true:=by
 have:M=1099511627776:=rfl;simp only[qX,aK1,decide_eq_true_eq];omega
def nj(s:List aY):Prop:=∀b∈s,fH 59 b.term/\cc b.term<=3
variable {s:List aY}{u:I}
theorem aJ9{n:ak}(h:jr s n=some u):∃b∈s,b.term=u:=by
 unfold jr at h;rw[aKU]at h;obtain⟨b,a,c⟩:=h;exact⟨b,List.mem_of_find?_eq_some a,c⟩
theorem TI:∀(p t:I)(s:List aY),fH 59 t->cc t<=3->nj s->nj (fk p t s).1
 |.mk f l,t,s,aE,hd,ax=>by
  rw[fk];split
  ·split
   ·exact ax
   ·intro b ae;rw[aKR]at ae;rcases ae with ae|ae
    ·exact ax b ae
    ·grind
  ·split
   ·intro b ae;cases ae
   ·have key:∀(l m:List I)(s:List aY),(∀p∈l,∀(t:I)(s:List aY),fH 59 t->cc t<=3->nj s->nj (fk p t s).1)->(∀u∈m,fH 59 u/\cc u<=3)->nj s->nj (j9 l m s).1:=λl=>by
     induction l with
     |nil=>intro m s _ _ h;rw[j9];exact h;all_goals simp|cons x r ih =>
      intro m s c hm h;cases m with
      |nil=>rw[j9];exact h|cons y q =>
       have e:=c x be y s (hm y be).1 (hm y be).2 h;rw[j9];split
       ·simp_all
       ·exact e
    refine key l t.args s (λp ar t s=>TI p t s) (λu a=>⟨(Ha.1 aE).2.2 u a,?_⟩) ax;have:=TE (d:=2) hd u a;omega
theorem aKa(p t:I)(s:List aY)(f:t.args.length=p.args.length)(aE:fH 59 t)(hd:cc t<=4)(ax:nj s):nj (fk p t s).1:=by
 obtain⟨a,l⟩:=p;by_cases c:l.length=0
 ·refine TI (.mk a l) t s aE ?_ ax;rw[u4,List.length_eq_zero_iff.1 (f.trans c)];simp[ja]
 ·have g:mx (.mk a l)=false:=by(unfold mx;rw[show(I.mk a l).args.length=l.length from rfl,decide_eq_false c];rfl)
  rw[fk,g,if_neg be];split
  ·intro b ae;cases ae
  ·have key:∀(l m:List I)(s:List aY),(∀u∈m,fH 59 u/\cc u<=3)->nj s->nj (j9 l m s).1:=λl=>by
    induction l with
    |nil=>simp[j9]|cons x r ih =>
     intro m s hm h;cases m with
     |nil=>rw[j9];exact h|cons y q =>
      have i:=TI x y s (hm y be).1 (hm y be).2 h;rw[j9];split
      ·grind
      ·exact i
   exact key l t.args s (λu e=>⟨(Ha.1 aE).2.2 u e,TE (d:=3) hd u e⟩) ax
def Ba(A:List I):Prop:=∀a∈A,fH 59 a/\cc a<=4
theorem TJ(a:I)(s:List aY)(ax:nj s):∀(l:List I)(b:List (List aY))(left:Int)(q:List (List aY)×Int),Ba l->(∀s∈b,nj s)->k2 a s l b left=some q->∀s∈q.1,nj s
 |[],b,left,q,_,d,h=>by
  simp only[k2,Option.some.injEq]at h;subst h;exact d
 |t::bE,b,left,q,cE,d,h=>by
  rw[k2]at h;split at h
  ·exact TJ a s ax bE b left q (λu c=>cE u (aKS _ c)) d h
  ·rename_i g;by_cases e:(decide (left-1<0)||decide ((if(fk a t s).2 then b++[(fk a t s).1]else b).length>5000))=true
   ·rw[if_pos e]at h;cases h
   ·rw[if_neg e]at h;refine TJ a s ax bE _ _ q (λu c=>cE u (aKS _ c)) ?_ h;have f:t.args.length=a.args.length:=by grind
    have i:=aKa a t s f (cE t be).1 (cE t be).2 ax;intro u c;split at c
    ·grind
    ·exact d u c
theorem alc(a:I)(A:List I)(cE:Ba A):∀(l b:List (List aY))(left:Int)(q:List (List aY)×Int),(∀s∈l,nj s)->(∀s∈b,nj s)->my a A l b left=some q->∀s∈q.1,nj s
 |[],b,left,q,_,c,h=>by
  simp only[my,Option.some.injEq]at h;subst h;exact c
 |s::r,b,left,q,d,c,h=>by
  rw[my]at h;split at h
  ·cases h
  ·rename_i e f he;exact alc a A cE r e f q (λu g=>d u (aKS _ g)) (TJ a s (d s be) A b left _ cE c he) h
theorem TK(A:List I)(cE:Ba A):∀(body:List Lit)(out:List (List aY))(left:Int)(q:List (List aY)×Int),(∀s∈out,nj s)->js A body out left=some q->∀s∈q.1,nj s
 |[],out,left,q,aE,h=>by
  simp only[js,Option.some.injEq]at h;subst h;exact aE
 |x::r,out,left,q,aE,h=>by
  rw[js]at h;split at h
  ·exact TK A cE r out left q aE h
  ·split at h
   ·cases h
   ·rename_i a b he;exact TK A cE r a b q (alc x.atom A cE out [] left _ aE (λ_ h=>d7) he) h
theorem ald(ax:nj s):∀(n:Nat)(h u:I),jt h<=n->fH 59 h->hv h s=some u->fH 59 u/\(fy u).length+1<=jt h*(1048579+pn 3)/\cc u<=n+3
 |0,h,u,a,_,_=>by have:=DL h;omega|n+1,.mk e l,u,a,aE,al=>by
  rw[hv]at al;split at al
  ·obtain⟨b,ae,rfl⟩:=aJ9 al;obtain⟨c,f⟩:=ax b ae;refine⟨c,?_,am⟩;have w:=TG 3 b.term c f;have z:1*(1048579+pn 3)<=jt (.mk e l)*(1048579+pn 3):=aLa _ (DL _);omega
  ·rw[aKU]at al;obtain⟨m,hm,rfl⟩:=al;simp only[fH,DI]at aE ⊢;simp only[jt]at a ⊢;have key:∀(l m:List I),oE l<=n->(∀u∈l,fH 59 u)->kN l s=some m->(∀u∈m,fH 59 u)/\(iA m).length<=oE l*(1048579+pn 3)/\ja m<=n+3:=λl=>by
    induction l with
    |nil=>intro m _ _ h;simp only[kN,Option.some.injEq]at h;subst h;simp[iA,ja]|cons x r ih =>
     intro m g aE h;simp only[oE]at g;rw[kN]at h;split at h
     ·cases h
     ·rename_i y i;rw[aKU]at h;obtain⟨q,j,rfl⟩:=h;obtain⟨A,o,a3⟩:=ald ax n x y am (aE x be) i;obtain⟨B,en,lD⟩:=ih q am (λu d=>aE u (aKS _ d)) j;refine⟨λu d=>?_,?_,?_⟩
      ·grind
      ·simp only[iA,oE,aKZ,aKQ,aK3,Nat.add_mul]at o en ⊢;omega
      ·simp only[ja];omega
   obtain⟨p,v,C⟩:=key l m am aE.2.2 hm;refine⟨⟨aE.1,by rw[akm hm];exact aE.2.1,p⟩,?_,by simp only[cc];omega⟩;simp only[fy,aKZ,aKQ,aK3,Nat.add_mul]at v ⊢;omega
variable {S:List I}
theorem ale(ds:Ba S):∀(l:List aU)(more:List I)(left:Int)(q:List I×Int),(∀r∈l,fH 59 r.head/\jt r.head<=20)->(∀t∈more,fH 59 t/\qX t=true)->rS S l more left=some q->∀t∈q.1,fH 59 t/\qX t=true
 |[],more,left,q,_,hm,h=>by
  simp only[rS,Option.some.injEq]at h;subst h;exact hm
 |r::l,more,left,q,c,hm,h=>by
  rw[rS]at h;split at h
  ·cases h
  ·rename_i all e he;refine ale ds l _ e q (λr f=>c r (aKS _ f)) ?_ h;intro t a;rw[aKR]at a;rcases a with a|a
   ·exact hm t a
   ·obtain⟨s,ax,al⟩:=List.mem_filterMap.1 a;obtain⟨g,d⟩:=c r be;obtain⟨i,j,a3⟩:=ald (TK S ds r.body [[]] left _ (λs ax=>by rw[aK8]at ax;subst ax;intro b ae;cases ae) he s ax) 20 _ _ d g al;have n:jt r.head*(1048579+pn 3)<=20*(1048579+pn 3):=aLa _ d;rw[aJ8.2]at j n;exact⟨i,TH am am⟩
theorem aKb(h:fH 59 t/\cc t<=4)(a:kP t=some u):fH 59 u/\qX u=true:=by
 have key:∀n:ak,n.length<=4->fH 59 (.mk n t.args)/\qX (.mk n t.args)=true:=λn d=>by
  have b:fH 59 (.mk n t.args):=Ha.2 ⟨by simp only[I.name];omega,(Ha.1 h.1).2⟩;have c:cc (.mk n t.args)<=4:=by have:=h.2;rw[u4]at this ⊢;exact this
  have e:=TG 4 _ b c;have f:pn 4=219069124680:=by decide
  exact⟨b,TH am am⟩
 unfold kP at a;split at a
 ·cases a;exact key _ f8
 ·grind
theorem TL:∀(l:List I)(p:List (ak×Bool)×List I),(∀t∈l,fH 59 t)->Ba p.2->Ba (l.foldl gZ p).2
 |[],p,_,h=>h|t::l,p,b,h=>by
  rw[List.foldl_cons];refine TL l _ (λu d=>b u (aKS _ d)) ?_;unfold gZ;split
  ·rename_i c;simp only[aK1,decide_eq_true_eq]at c;intro a aG;simp only[aKR,aK8]at aG;rcases aG with aG|rfl
   ·exact h a aG
   ·exact⟨b _ be,c.2⟩
  ·exact h
variable {l:List aU}
theorem alf(b:∀r∈l,fH 59 r.head/\jt r.head<=20):∀(f:Nat)(p:List (ak×Bool)×List I)(n left:Int),Ba p.2->n<=1000->1002<=f+n->(y8 l f p n left).isSome=true
 |0,p,n,left,_,h1,d=>by omega|f+1,p,n,left,ar,h1,d=>by
  rw[y8];split
  ·rename_i e;simp only[aK1,decide_eq_true_eq]at e;cases hm:rS p.2 l [] left with
   |none=>rfl|some q =>
    obtain⟨more,o⟩:=q;have g:=ale ar l [] left _ b (λ_ h=>d7) hm;have c:∀t∈more++p.2.filterMap kP,fH 59 t/\qX t=true:=λt a=>by
     rw[aKR]at a;rcases a with a|a
     ·exact g t a
     ·obtain⟨u,i,j⟩:=List.mem_filterMap.1 a;exact aKb (ar u i) j
    simp only;rw[if_neg (by
     rw[aK2.2 λt a=>(c t a).2];simp)]
    exact alf b f _ _ _ (TL _ _ (λt a=>(c t a).1) ar) am am
  ·rfl
variable {g:List I}
theorem alg(c:∀r∈l,fH k r.head/\jt r.head<=20)(b:∀a∈g,fH k a/\jt a<=60):(kb l g).isSome=true:=by
 have e:∀a∈g,fH 59 a:=λa aG=>TD 60 a (b a aG).2 am (b a aG).1;unfold kb;rw[if_neg (by
  rw[aK2.2 λa aG=>TH (t:=a) (by have f:=alb 60 a (b a aG).1 (b a aG).2;have:=(b a aG).2;omega) (by have:=Lu 60 a (b a aG).2;omega)];simp)]
 exact alf (λr d=>⟨TD 20 _ (c r d).2 am (c r d).1,(c r d).2⟩) _ _ _ _ (TL _ _ e (by intro a aG;cases aG)) am am
variable {L:List aU}{A:List I}{r:aU}
theorem sR.We(C:sR L A)(d:r∈L)(ds:∀a∈S,a∈A){h:I}(b:h∈nc S r)(hd:cc h<=4):h∈A:=by
 rw[nc,Ts]at b;obtain⟨c,e,rfl⟩:=aKV.1 b;exact C.c r d c (Fu ds _ _ c (aKT.1 e).1) hd
theorem sR.round(C:sR L A)(c:∀r∈l,r∈L)(ds:∀a∈S,a∈A)(hd:jR (eB l S)=false):∀h∈eB l S,h∈A:=λh b=>by
 have d:=b;rw[eB,aKW]at b;obtain⟨r,e,b⟩:=b;rw[jR,List.any_eq_false]at hd;have:=hd h d;exact C.We (c r e) ds b (by simpa using this)
theorem sR.Fv(C:sR L A)(o:∀r∈l,r∈L):∀(f:Nat)(S:List I),jo S->(∀a∈S,a∈A)->514<=f+S.length->1<=f->∃e b,xe f l S=some (e,b)/\jo b/\(∀a∈b,a∈A)/\∀a∈S,a∈b
 |0,S,_,_,_,h=>by omega|f+1,S,cE,ds,E,_=>by
  rw[xe];have d:gX S:=λa aG=>C.v a (ds a aG);cases hd:jR (eB l S)with
  |true=>exact⟨3,S,if_pos rfl,cE,ds,λ_ h=>h⟩|false =>
   rw[if_neg be];have p:=C.round o ds hd;by_cases i:kZ l S=[]
   ·exact⟨0,S,if_pos i,cE,ds,λ_ h=>h⟩
   ·rw[if_neg i];have j:∀a∈fx (S++kZ l S),a∈A:=λa aG=>by
     rw[rI,aKR]at aG;rcases aG with aG|aG
     ·exact ds a aG
     ·exact p a (ub.1 aG).1
    have n:=wZ (S++kZ l S);have q:(fx (S++kZ l S)).length<=A.length:=List.Nodup.length_le_of_subset (K1 n) j;have F:=C.n;rw[if_neg am];obtain⟨x,ah⟩:=List.exists_mem_of_ne_nil _ i;have y:x∉S:=λhm=>by
     have c:=(ub.1 ah).2;rw[(KY d (C.v x (p x (ub.1 ah).1))).2 hm]at c;cases c
    have G:S.length+1<=(fx (S++kZ l S)).length:=by
     have:=List.Nodup.length_le_of_subset (l₁:=x::S) (l₂:=fx (S++kZ l S)) (List.nodup_cons.2 ⟨y,K1 cE⟩) λa aG=>by
      rw[rI,aKR];rcases aKY.1 aG with rfl|aG
      ·exact .inr ah
      ·exact .inl aG
     simpa using this
    have v:∀a∈S,a∈fx (S++kZ l S):=λa aG=>by rw[rI,aKR];exact .inl aG
    by_cases w:512<(fx (S++kZ l S)).length
    ·rw[if_pos w];exact⟨11,_,rfl,n,j,v⟩
    ·rw[if_neg w];obtain⟨e,b,c,z,B,D⟩:=C.Fv o f _ n j am am;exact⟨e,b,c,z,B,λa aG=>D a (v a aG)⟩
theorem sR.Fx(C:sR L A)(f:∀r∈l,r∈L):∀(rows:List (List Nat))(S:List I),(∀b∈rows,∀k∈b,k<l.length)->jo S->(∀a∈S,a∈A)->∃e c,GJ l rows S=some (c,e)/\jo c/\(∀a∈c,a∈A)
 |[],S,_,cE,ds=>⟨0,S,rfl,cE,ds⟩|b::rows,S,hk,cE,ds=>by
  obtain⟨e,c,h,i,j,_⟩:=C.Fv (l:=b.map (l[·]!)) (λr d=>by
   obtain⟨k,n,rfl⟩:=aKV.1 d;exact f _ (ek (hk b be k n))) 600 S cE ds am am
  rw[GJ,h];by_cases he:e=0
  ·simp only[he,if_true];exact C.Fx f rows c (λr d=>hk r (aKS _ d)) i j
  ·simp only[he,if_false];exact⟨e,[],rfl,List.Pairwise.nil,be⟩
theorem Wf(C:sR L A)(b:∀r∈l,r∈L)(c:∀a∈g,a∈A):∃S e,iz l g=some (S,e)/\jo S/\∀a∈S,a∈A:=by
 unfold iz;split
 ·exact⟨_,_,rfl,List.Pairwise.nil,be⟩
 ·split
  ·exact⟨_,_,rfl,List.Pairwise.nil,be⟩
  ·split
   ·exact⟨_,_,rfl,List.Pairwise.nil,be⟩
   ·obtain⟨e,S,h⟩:=C.Fx b (oC l).1 (fx g) (λd f k hk=>aG7 f hk) (wZ g) (λa aG=>c a ((rI _ _).1 aG));exact⟨S,e,h⟩
variable {h6:List I}
theorem abU :∀(c:List Lit)(σ:Sub),(∀l∈c,∀a∈S,a.name=l.atom.name->a∈h6)->∀d∈exts S c σ,d∈exts h6 c σ
 |[],σ,_,d,h=>h|l::c,σ,h,d,b=>by
  rw[exts,aKW]at b ⊢;obtain⟨a,aG,b⟩:=b;simp only[jc,aKT,beq_iff_eq]at aG;refine⟨a,by simp only[jc,aKT,beq_iff_eq];exact⟨h l be a aG.1 aG.2,aG.2⟩,?_⟩;split at b
  ·rename_i hm;rw[if_pos hm];exact abU c _ (λl e=>h l (aKS _ e)) d b
  ·cases b
theorem aKp{σ:Sub}{p:I}(h:dM p.name=true):(eD σ p).name=p.name/\(eD σ p).args.length=p.args.length:=by
 have a:¬eJ p=true:=λa=>by
  have:=G7 (show eg p.name=true by simp_all[eJ]);rw[G8 h]at this;cases this
 rw[C7,if_neg a];split
 ·exact⟨rfl,rfl⟩
 ·exact⟨rfl,by simp[I.args]⟩
structure Hf(r:aU):Prop extends RV1 r where
 hd:r.head.name≠eG
 hz:∀l∈r.body,l.atom.name=eG->l.atom.args.length=2
theorem als:∀{l:List I}{h:Bool},kG l h=0->(∀a∈l.head?,kj a h=0)/\∀a∈l.drop 1,kj a false=0
 |[],_,_=>by simp|t::r,h,he=>by
  rw[kG]at he;split at he
  ·rename_i b;obtain⟨c,d⟩:=als he;refine⟨by simpa using b,λa aG=>?_⟩;cases r with
   |nil=>cases aG|cons u r =>
    rcases aKY.1 (by simpa using aG)with rfl|aG
    ·exact c _ rfl
    ·exact d a (by simpa using aG)
  omega
theorem aKq(h:fK r=0):Hf r:=by
 refine⟨aiF h,?_,?_⟩;all_goals
  unfold fK at h;split at h
  ·cases h
  split at h
  ·rename_i a;exact absurd h a
  rename_i a;obtain⟨d,e⟩:=als kW
 ·intro c;have b:=d r.head rfl;have hk:ln r.head.name=some ⟨eG,2,false,true⟩:=by rw[c];rfl
  unfold kj at b;rw[hk]at b;grind
 ·intro l f c;have b:=e l.atom (aKV.2 ⟨l,f,rfl⟩);have hk:ln l.atom.name=some ⟨eG,2,false,true⟩:=by rw[c];rfl
  unfold kj at b;rw[hk]at b;by_cases a:l.atom.args.length=2
  ·exact a
  ·grind
theorem alu(h:hG l=0):∀r∈l,Hf r:=by
 unfold hG at h;split at h
 ·cases h
 ·intro r a;refine aKq ?_;cases b:l.find? λr=>!(fK r==0)with
  |none=>grind|some s=>grind
variable {x:I}
theorem abV(a:RV1 r)(h:x∈nc S r):x.name=r.head.name:=by
 rw[nc,Ts]at h;obtain⟨b,_,rfl⟩:=aKV.1 h;exact(aKp (a.a r.head (by simp[dx])).2).1
theorem Jv(ds:gX S)(p:gX h6)(e:Hf r)(q:∀l∈r.body,dB l=true->∀a∈S,a.name=l.atom.name->a∈h6)
  (w:∀l∈r.body,l.neg=true->l.atom.name≠eG->∀a,a.name=l.atom.name->(a∈S↔a∈h6))(ah:x∈nc S r):x∈nc h6 r:=by
 rw[nc,Ts]at ah ⊢;obtain⟨d,c,rfl⟩:=aKV.1 ah;rw[aKT]at c;refine aKV.2 ⟨d,aKT.2 ⟨abU _ _ (λl b=>q l (aKT.1 b).1 (aKT.1 b).2) d c.1,?_⟩,rfl⟩;have y:=(Tw ds _ [] (λ_ h=>d7) d c.1).1;rw[aK2]at c ⊢;intro l b;have z:=c.2 l b;rw[aKT]at b;have f:l.atom∈dx r:=by simp only[dx,aKY,aKV];exact .inr ⟨l,b.1,rfl⟩
 obtain⟨i,B⟩:=aKp (σ:=d) (e.a l.atom f).2;rw[<-z];unfold o9;rw[i,B];by_cases hd:l.atom.name=eG
 ·rw[e.hz l b.1 hd,hd];rfl
 ·have j:(l.atom.name==eG)=false:=by simpa using hd
  have C:l.neg=true:=by
   have:=b.2;simpa[dB,j]using this
  rw[j];simp only[Bool.false_and,aK5,if_false];congr 2
  have o:=Di (v:=true) (n:=4) y (e.a l.atom f).1 (λh=>d7);rw[Bool.eq_iff_iff,KY p o,KY ds o];exact(w l b.1 C hd _ i).symm
theorem Jw{n:Int}:∀{es:List bR}{a b:List (ak×Int)}{c:Bool},p0 n es a c=some (b,false)->c=false/\b=a/\∀e∈es,AY a e<=mw a e.src
 |[],a,b,c,h=>by
  simp only[p0,Option.some.injEq,Prod.mk.injEq]at h;simp_all
 |e::r,a,b,c,h=>by
  rw[p0]at h;split at h
  ·split at h
   ·cases h
   ·cases (Jw h).1
  ·rename_i j;obtain⟨d,f,i⟩:=Jw h;exact⟨d,f,λx ah=>by
    rcases aKY.1 ah with rfl|ah
    ·omega
    ·exact i x ah⟩
variable {n:Nat}
theorem abW{es:List bR}:∀{f:Nat}{b a:List (ak×Int)},xp n b->ud n es f b=some (some a)->xp n a/\∀e∈es,AY a e<=mw a e.src
 |0,_,_,_,h=>by cases h|f+1,b,a,c,h=>by
  rw[ud]at h;split at h
  ·cases h
  ·rename_i ar;exact abW (SF (ns:=es.map bR.src) (λe he=>aKV.2 ⟨e,he,rfl⟩) c ar).1 h
  ·rename_i ar;simp only[Option.some.injEq]at h;subst h;obtain⟨_,rfl,q⟩:=Jw ar;exact⟨c,q⟩
theorem abX{α:Type}{f:ak->α}{s:ak}:∀{ks:List ak},s∈ks->getM (ks.map λs=>(s,f s)) s=some (f s)
 |k::r,h=>by
  rw[aK0,getM];by_cases e:s=k
  ·rw[if_pos e,e]
  simp_all[abX]
structure aPl(l:List aU)(lv:ak->Int)(n:Nat):Prop where
 o:oC l=((List.range n).map λk:Nat=>(List.range l.length).filter λi=>lv l[i]!.head.name==(k:Int),0)
 h:∀r∈l,r.head.name≠eG->0<=lv r.head.name/\lv r.head.name<n
 b:∀r∈l,r.head.name≠eG->∀x∈r.body,x.atom.name≠eG->lv x.atom.name+(if x.neg then 1 else 0)<=lv r.head.name
theorem awb(h:(oC l).2=0):∃lv n,aPl l lv n:=by
 have C:=h;unfold oC at h;split at h
 ·cases h
 ·rename_i d e;have j:=e;unfold AZ at e;rw[aKU]at e;obtain⟨a,b,rfl⟩:=e;cases f:ud (il l).length (mv l) ((il l).length*(il l).length+2) []with
  |none=>rw[f]at b;cases b|some o =>
   rw[f]at b;simp only[Option.getD_some]at b;subst b;obtain⟨p,q⟩:=abW (ajY _) f;have i:∀s∈il l,p1 ((il l).map λs=>(s,mw a s)) s=mw a s:=λs ax=>by rw[p1,abX ax];rfl
   have v:∀r∈l,r.head.name≠eG->r.head.name∈il l:=λr c hd=>by
    rw[ajZ];simp only[uc,aKT,aKW,aKY];exact⟨⟨r,c,.inl rfl⟩,by simpa using hd⟩
   refine⟨p1 ((il l).map λs=>(s,mw a s)),(xh ((il l).map λs=>(s,mw a s))+1).toNat,?_,λr c hd=>?_,λr c hd x ah w=>?_⟩
   ·unfold oC;rw[j]
   ·have D:=aIX ((il l).map λs=>(s,mw a s)) r.head.name;have y:=(p r.head.name).1;rw[<-i _ (v r c hd)]at y;omega
   ·have he:(⟨r.head.name,x.atom.name,x.neg⟩:bR)∈mv l:=by
     rw[aIL];simp only[lp,aKW,aKT,aKV];exact⟨r,⟨c,by simpa using hd⟩,x,⟨ah,by simpa using w⟩,rfl⟩
    obtain⟨z,B⟩:=aIM he;rw[i _ z,i _ B];exact q _ he
theorem abY(c:∀r∈l,RV1 r):∀{f:Nat}{A b:List I},gX A->xe f l A=some (0,b)->gX b/\(∀a∈A,a∈b)/\(∀a∈eB l b,a∈b)/\∀x∈b,x∈A\/∃B,gX B/\(∀a∈A,a∈B)/\(∀a∈B,a∈b)/\x∈eB l B
 |0,_,_,_,h=>by cases h|f+1,A,b,cE,h=>by
  rw[xe]at h;split at h
  ·cases h
  ·rename_i hd;have i:jR (eB l A)=false:=by simpa using hd
   split at h
   ·rename_i p;simp only[Option.some.injEq,Prod.mk.injEq,true_and]at h;subst h;refine⟨cE,λ_ h=>h,λa aG=>?_,λx ah=>.inl ah⟩;have d:=Dm c cE i aG;cases j:kI A a with
    |true=>exact(KY cE d).1 j|false =>
     have:=ub.2 ⟨aG,j⟩;rw[p]at this;cases this
   ·split at h
    ·cases h
    ·split at h
     ·cases h
     ·have d:gX (fx (A++kZ l A)):=λa aG=>by
       rw[rI,aKR]at aG;rcases aG with aG|aG
       ·exact cE a aG
       ·exact Dm c cE i (ub.1 aG).1
      obtain⟨q,o,v,w⟩:=abY c d h;have e:∀a∈A,a∈fx (A++kZ l A):=λa aG=>by rw[rI,aKR];exact .inl aG
      refine⟨q,λa aG=>o a (e a aG),v,λx ah=>?_⟩;rcases w x ah with h|⟨B,y,en,lD,z⟩
      ·rw[rI,aKR]at h;rcases h with h|h
       ·exact .inl h
       ·exact .inr ⟨A,cE,λ_ h=>h,λa aG=>o a (e a aG),(ub.1 h).1⟩
      ·exact .inr ⟨B,y,λa aG=>en a (e a aG),lD,z⟩
structure aPm(l:List aU)(lv:ak->Int)(g:List I)(k:Nat)(A:List I):Prop where
 v:gX A
 i:∀a∈g,a∈A
 s:∀x∈A,x∈g\/∃r∈l,lv r.head.name<k/\x∈nc A r
 c:∀r∈l,lv r.head.name<k->∀x∈nc A r,x∈A
theorem abZ{lv:ak->Int}(c:∀r∈l,Hf r)(L:aPl l lv n) :∀(m k:Nat){A D:List I},aPm l lv g k A ->
  GJ l ((List.range' k m).map λk:Nat=>(List.range l.length).filter λi=>lv l[i]!.head.name==(k:Int)) A=some (D,0)->aPm l lv g (k+m) D
 |0,k,A,D,h,he=>by
  simp only[List.range'_zero,List.map_nil,GJ,Option.some.injEq,Prod.mk.injEq,and_true]at he;subst he;exact h
 |m+1,k,A,D,h,he=>by
  rw[List.range'_succ,aK0,GJ]at he;obtain⟨R,de⟩:∃R,R=((List.range l.length).filter λi=>lv l[i]!.head.name==(k:Int)).map (l[·]!):=⟨_,rfl⟩;rw[<-de]at he;have E:∀r,r∈R↔r∈l/\lv r.head.name=k:=λr=>by
   rw[de];simp only[aKV,aKT,List.mem_range,beq_iff_eq];constructor
   ·rintro⟨i,⟨d,J⟩,rfl⟩;exact⟨ek d,J⟩
   ·rintro⟨d,J⟩;obtain⟨i,al,e⟩:=List.mem_iff_getElem.1 d;have X:l[i]! = r:=by rw[getElem!_pos l i al,e]
    exact⟨i,⟨al,by rw[X];exact J⟩,X⟩
  split at he
  ·cases he
  ·rename_i e B ax;split at he
   ·rename_i K;subst K;have f:∀r∈R,RV1 r:=λr nu=>(c r ((E r).1 nu).1).toRV1;obtain⟨F,j,v3,v4⟩:=abY f h.v ax
    -- what is new has the level k
    have Y:∀x∈B,lv x.name<k->x∈A:=λx ah hk=>by
     rcases v4 x ah with O|⟨C,Z,G,o,P⟩
     ·exact O
     ·obtain⟨r,H,p⟩:=aKW.1 P;rw[abV (f r H) p,((E r).1 H).2]at hk;omega
    have hg:∀r∈l,∀x∈r.body,x.atom.name≠eG->lv x.atom.name+(if x.neg then 1 else 0)<=lv r.head.name:=λr b x ah Q=>L.b r b (c r b).hd x ah Q;have T:∀r∈l,lv r.head.name<=k->∀C:List I,(∀a∈A,a∈C)->(∀a∈C,a∈B)->∀x∈r.body,x.neg=true->x.atom.name≠eG->∀a,a.name=x.atom.name->(a∈C↔a∈B):=λr b v C G o x ah w Q a aG=>by
     have d:=hg r b x ah Q;rw[w,<-aG]at d;simp only[if_true]at d;exact⟨o a,λae=>G a (Y a ae am)⟩
    have z:∀r∈l,lv r.head.name<k->∀x,x∈nc A r↔x∈nc B r:=λr b v x=>by
     constructor
     ·exact Jv h.v F (c r b) (λy _ _ a aG _=>j a aG) (T r b am A (λ_ h=>h) j)
     ·refine Jv F h.v (c r b) (λy V ae a aG w=>?_) (λy V w hd a aG=>(T r b am A (λ_ h=>h) j y V w hd a aG).symm);refine Y a aG ?_;have W:y.atom.name≠eG:=by simp only[dB,aK1,Bool.not_eq_true',beq_eq_false_iff_ne]at ae;exact ae.2
      have:=hg r b y V W;rw[w];split at this<;>omega
    refine(show k+1+m=k+(m+1) by omega)▸abZ c L m (k+1) (A:=B) ⟨F,λa aG=>j a (h.i a aG),λx ah=>?_,λr b v x ah=>?_⟩ he
    ·rcases v4 x ah with O|⟨C,Z,G,o,P⟩
     ·rcases h.s x O with q|⟨r,b,v,p⟩
      ·exact .inl q
      ·exact .inr ⟨r,b,am,(z r b v x).1 p⟩
     ·obtain⟨r,H,p⟩:=aKW.1 P;obtain⟨b,v⟩:=(E r).1 H;exact .inr ⟨r,b,am,Jv Z F (c r b) (λy _ _ a aG _=>o a aG) (T r b am C G o) p⟩
    ·by_cases hk:lv r.head.name=k
     ·exact v3 x (aKW.2 ⟨r,(E r).2 ⟨b,hk⟩,ah⟩)
     ·have hp:lv r.head.name<k:=by omega
      exact j x (h.c r b hp x ((z r b hp x).2 ah))
   ·rename_i K;simp only[Option.some.injEq,Prod.mk.injEq]at he;exact absurd he.2 K
theorem ab2(h:iz l g=some (A,0)):gX A/\hG l=0/\(∀a∈g,a∈A)/\∀x,x∈A↔x∈g\/x∈eB l A:=by
 unfold iz at h;split at h
 ·simp_all
 ·rename_i j;have c:hG l=0:=by omega
  split at h
  ·simp_all
  ·rename_i o;split at h
   ·cases h
   ·rename_i f;have i:rO g=true:=by simpa using f
    obtain⟨lv,n,L⟩:=awb (l:=l) am;have d:=alu c;rw[L.o]at h;simp only[List.range_eq_range' (n:=n)]at h;have gq:aPm l lv g 0 (fx g):=⟨λa aG=>(aHa i).2 a ((rI _ _).1 aG),λa aG=>(rI _ _).2 aG,λx ah=>.inl ((rI _ _).1 ah),λr b hk=>by
     have:=(L.h r b (d r b).hd).1;omega⟩
    have iH:=abZ d L n 0 gq h;rw[Nat.zero_add]at iH;refine⟨iH.v,c,iH.i,λx=>⟨λah=>?_,λah=>?_⟩⟩
    ·rcases iH.s x ah with q|⟨r,b,_,e⟩
     ·exact .inl q
     ·exact .inr (aKW.2 ⟨r,b,e⟩)
    ·rcases ah with ah|ah
     ·exact iH.i x ah
     ·obtain⟨r,b,e⟩:=aKW.1 ah;exact iH.c r b (L.h r b (d r b).hd).2 x e
theorem ab3:∀{f:Nat}{l:List aU}{A a:List I},A.length<=512->xe f l A=some (0,a)->a.length<=512
 |0,_,_,_,_,h=>by cases h|f+1,l,A,a,cE,h=>by
  rw[xe]at h;split at h
  ·cases h
  ·split at h
   ·simp only[Option.some.injEq,Prod.mk.injEq,true_and]at h;rw[<-h];exact cE
   ·split at h
    ·cases h
    ·split at h
     ·cases h
     ·exact ab3 am h
theorem ab4 :∀{rows:List (List Nat)}{A a:List I},A.length<=512->GJ l rows A=some (a,0)->a.length<=512
 |[],A,a,cE,h=>by
  simp only[GJ,Option.some.injEq,Prod.mk.injEq,and_true]at h;rw[<-h];exact cE
 |row::rows,A,a,cE,h=>by
  rw[GJ]at h;split at h
  ·cases h
  ·rename_i e B ax;split at h
   ·rename_i b;subst b;exact ab4 (ab3 cE ax) h
   ·rename_i b;simp only[Option.some.injEq,Prod.mk.injEq]at h;exact absurd h.2 b
theorem wK(h:iz l g=some (A,0)):A.length<=512/\∀a∈A,dM a.name=true:=by
 obtain⟨_,d,_,e⟩:=ab2 h;have b:rO g=true:=by
  unfold iz at h;split at h
  ·omega
  ·split at h
   ·simp only[Option.some.injEq,Prod.mk.injEq]at h;omega
   ·split at h
    ·cases h
    ·rename_i q;simpa using q
 constructor
 ·unfold iz at h;split at h
  ·omega
  ·split at h
   ·simp only[Option.some.injEq,Prod.mk.injEq]at h;omega
   ·split at h
    ·cases h
    ·exact ab4 (Nat.le_trans (Kf g) (aHa b).1) h
 ·intro a aG;rcases(e a).1 aG with q|q
  ·simp only[rO,aK1]at b;have:=aK2.1 b.2 a q;simp only[A0,aK1,Bool.or_eq_true,beq_iff_eq]at this;rcases this.1 with q|q
   ·rw[q.1];rfl
   ·rw[q.1];rfl
  ·obtain⟨r,f,ah⟩:=aKW.1 q;have c:=(alu d r f).toRV1;rw[abV c ah];exact(c.a r.head (by simp[dx])).2
def bX(E:List bR)(x:ak):List ak:=(E.filter λe=>e.src==x).map (·.dst)
def jl(E:List bR)(met:List ak):Nat:=(E.filter λe=>!met.contains e.src).length
def nH(E:List bR):Nat->List ak->List ak->List ak
 |0,_,met=>met|f+1,todo,met=>match todo.getLast? with
  |none=>met|some x=>if met.contains x then nH E f todo.dropLast met else nH E f (todo.dropLast++bX E x) (met++[x])
def p7(E:List bR)(s:ak):List ak:=nH E ((bX E s).length+jl E []) (bX E s) []
def tH(l:List ak):List ak:=l.foldl (λacc s=>xf s acc) []
def lE(E:List bR)(s:ak):List ak:=tH (p7 E s)
theorem acO{l ks:List ak}(b:ks.Nodup)(hm:∀x,x∈ks↔x∈l):(Sort.sort ng ks.toArray).toList=tH l:=by
 obtain⟨c,d⟩:=ajt GQ Sq b;have e:tH l=l.foldl (λa x=>nO ng x a) []:=by
  simp[tH,Ss]
 obtain⟨f,h⟩:=GS GQ Sq l [] List.Pairwise.nil;rw[e];exact Sn GQ c f λx=>by rw[d,h,hm];simp
variable {E:List bR}{met:List ak}
theorem acR{x:ak}(h:met.contains x=false):jl E (met++[x])+(bX E x).length=jl E met:=by
 unfold jl bX;rw[List.length_map];induction E with
 |nil=>rfl|cons e E ih =>
  simp only[List.filter_cons];by_cases ah:e.src=x
  ·subst ah;have a:(met++[e.src]).contains e.src=true:=by simp
   simp only[a,h,beq_self_eq_true,Bool.not_true,Bool.not_false,aK5,if_false,if_true,aKQ];omega
  ·have a:(met++[x]).contains e.src=met.contains e.src:=by
    rw[Bool.eq_iff_iff];simp[ah]
   have b:(e.src==x)=false:=by simpa using ah
   simp only[a,b,aK5,if_false];split
   ·simp only[aKQ];omega
   ·omega
theorem awB{a:List ak}{x:ak}(h:a.getLast?=some x):nH E (a.length+jl E met) a met =
  if met.contains x then nH E (a.dropLast.length+jl E met) a.dropLast met else nH E ((a.dropLast++bX E x).length+jl E (met++[x])) (a.dropLast++bX E x) (met++[x]):=by
 have ar:0<a.length:=by
  cases a with
  |nil=>cases h|cons=>simp
 obtain⟨n,b⟩:∃n,a.length=n+1:=⟨a.length-1,am⟩;have hd:a.dropLast.length=n:=by rw[List.length_dropLast];omega
 rw[b,show n+1+jl E met=(n+jl E met)+1 by omega,nH,h];simp only;cases c:met.contains x with
 |true=>rw[if_pos rfl,if_pos rfl,hd]|false =>
  have:=acR (E:=E) c;rw[if_neg be,if_neg be,aKZ,hd,show n+(bX E x).length+jl E (met++[x])=n+jl E met by omega]
theorem acS(n:Nat):nH E n [] met=met:=by cases n<;>rfl
def q2(E:List bR)(dv:List (ak×List ak)):Prop:=∀x,getM dv x=if bX E x=[]then none else some (bX E x)
theorem awD(E:List bR)(e:bR)(x:ak):bX (E++[e]) x=bX E x++if e.src==x then[e.dst]else[]:=by
 unfold bX;rw[List.filter_append,List.map_append];cases h:e.src==x<;>simp[h]
theorem q2.snoc{a:List (ak×List ak)}(h:q2 E a)(e:bR):q2 (E++[e]) (fV a e.src (bX E e.src++[e.dst])):=λx=>by
 rw[w5,awD];by_cases ah:x=e.src
 ·subst ah;simp
 ·have b:(e.src==x)=false:=by simpa using λh=>ah h.symm
  rw[if_neg ah,h x,b];simp
def fg(e:Nat)(l:List ak):AV:=.list (some e) 1 (l.map AV.str)
theorem awG(e:Nat)(l:List ak):(fg e l).a1=.list none 1 (l.map AV.str):=_root_.id rfl
section
variable {s:au}{K:au->Prop}{t:aN K}
variable {d e:Nat}{zero:AV}{id:Nat}{q:ak}{l:List (ak×List ak)}{L:List ak}
theorem awI(h:getM l q=some L) :
  AF [1] s d zero (.str q) id K t (some (.map n (cI (fg e) l)))=di { s with heap:=s.heap.set id (.map n (jv (cI (fg e) l) (.str q) (.list none 1 (L.map AV.str)))) } d (.list (some e) 1 (L.map AV.str)) K ⟨⟩:=by
 simp only[AF,C4,fE,beq_self_eq_true,Bool.and_self,if_true,C3,h,Option.map_some,fg]
theorem awJ(h:getM l q=none) :
  AF [1] s d zero (.str q) id K t (some (.map n (cI (fg e) l)))=di s d zero K ⟨⟩:=by
 simp only[AF,C4,fE,beq_self_eq_true,Bool.and_self,if_true,C3,h,Option.map_none]
variable {v:Nat}{xs:List AV}
theorem awK{x:AV}(h:(getM l q).isSome=true)(ah:xs=L.map AV.str) :
  w7 [1] s v (.str q) id e 1 xs K t (some (.map n (jv (cI (fg e) l) (.str q) x)))=di { s with heap:=s.heap.set id (.map n (cI (fg e) (fV l q L))) } v (.list none 1 (L.map AV.str)) K ⟨⟩:=by
 subst ah;simp only[w7,aE1,fE,beq_self_eq_true,Bool.and_self,if_true,pr,ahH (fg e) q x l h,ahI];have:=Ko (fg e) l q L;simp only[fg]at this;rw[show(AV.list (some e) 1 (L.map AV.str))=fg e L from rfl,Ko];rw[fV];cases a:getM l q with
 |none=>rw[a]at h;cases h|some u=>rfl
theorem awL(h:getM l q=none)(ah:xs=L.map AV.str) :
  w7 [1] s v (.str q) id e 1 xs K t (some (.map n (cI (fg e) l)))=di { s with heap:=s.heap.set id (.map (n+1) (cI (fg e) (fV l q L))) } v (.list none 1 (L.map AV.str)) K ⟨⟩:=by
 subst ah;simp only[w7,C4,fE,beq_self_eq_true,Bool.and_self,if_true];rw[show(AV.list (some e) 1 (L.map AV.str))=fg e L from rfl,aht,lo,h]
end
theorem Fy{e0:Env}{H:List ay}{K:au->Prop}{t:aN K}{d e id:Nat}{cs:List AV}{ks vs:List ak}(h:H[id]?=some (.buf e cs)/\n<=cs.length/\cs.take n=ks.map AV.str/\n+vs.length<=M) :
  o7 ⟨e0,H⟩ d e 1 K t (.bI id 0 n 1) (some (1,vs.map AV.str))=di ⟨e0,H.set id .dead++[ay.buf e ((ks++vs).map AV.str),.dead]⟩ d (.bI H.length 0 (n+vs.length) 1) K ⟨⟩:=by
 obtain⟨b,j,c,a⟩:=h;have f:(ks.map AV.str).map AV.a1=ks.map AV.str:=by rw[List.map_map];rfl
 have i:((vs.map AV.str).map λv:AV=>v.cells.map AV.a1).flatten=vs.map AV.str:=by
  induction vs with
  |nil=>rfl|cons v vs ih=>simp only[aK0,List.flatten_cons];rw[ih (by simp only[aKQ]at a;omega)];rfl
 simp only[o7,b];rw[if_pos ⟨trivial,trivial,trivial,am,kW⟩,Nat.mul_one,c,f,i,List.map_append,List.length_map]
attribute [go_sem 5000] awG
open Enc (enc)
section
variable {α:Type}[Enc α]
def dg:Bool->List α->AV
 |true,[]=>.aS (Enc.sz α)|_,l=>.list none (Enc.sz α) (l.map enc)
theorem hr(l:List α):dg false l=.list none (Enc.sz α) (l.map enc):=by cases l<;>rfl
theorem Wj{P:AV->Prop}(c:P (.aS (Enc.sz α)))(a:∀xs,P (.list none (Enc.sz α) xs))(b:Bool)(s:List α):P (dg b s):=by
 cases b
 ·rw[hr];exact a _
 ·cases s
  ·exact c
  ·exact a _
theorem Wk(b:Bool)(s:List α):(dg b s=.aS (Enc.sz α)/\s=[])\/dg b s=.list none (Enc.sz α) (s.map enc):=by
 cases b
 ·exact .inr (hr s)
 ·cases s
  ·exact .inl ⟨rfl,rfl⟩
  ·exact .inr rfl
theorem Wl(b:Bool)(s:List α):(dg b s).a1=dg b s:=Wj (P:=λx=>x.a1=x) rfl (λ_=>rfl) b s
instance aT.dg(b:Bool)(s:List α):aT (dg b s) s:=by
 cases b
 ·rw[hr];exact aT.enc s
 ·cases s
  ·exact aT.aS
  ·exact aT.enc (_::_)
end
open Enc (enc)
section
variable {P:Program}{gl:cQ}{D:bj}
def tK(P:Program)(x y:AV):Prop:=∀g w v o,bn g x v->fC P g w o x v->bn g y v/\fC P g w o y v
theorem tK.refl(x:AV):tK P x x:=λ_ _ _ _ a b=>⟨a,b⟩
theorem tK.aS{e sz:Nat}(h:ko P e sz=true):tK P (.aS sz) (.list (some e) sz []):=λg w v o a _=>by
 obtain⟨i,z,c,d,f,j,p,q⟩:=ra h;have y:=a.uz;subst y;refine⟨.own _ _ _ _ (.kn sz none 0 λ_=>rfl),λB C xs ah=>?_⟩;simp only[AV.list.injEq,Option.some.injEq]at ah;obtain⟨rfl,rfl,rfl⟩:=ah;exact⟨i,z,[],c,d,f,j,p,q,Nat.zero_le _,World.ownsRow_nil w 0 _ _,λb ae=>by simp[Value.ownBlock]at ae⟩
theorem aA.awY{f:Nat}{hh:az}{iw:List bo}{xs:List AV}{r:AV}(B:bs P f xs.length hh iw=true)(ah:xs.all AV.arg=true)(C:r.res=true)
  (he:exec P gl D hh ⟨mR 0 xs,[]⟩ (yg λs=>∃d,tv s.env iw=some d/\tK P d r)):aA P gl f xs r:=by
 have F:bB P gl f xs [] λd _=>tK P d r:=bB.intro B (pL hh he λe s h=>by
  cases e with
  |exit i=>exact h|normal=>exact h|ret=>exact h)
 intro γ w vs G H J;let g:bD:=⟨γ,λb=>if b<w.heap.size then .outer else .none,λ_=>none⟩
 have c:Rel P gl 0 g (l9 []) tu w :=
  ⟨.nil,rfl,rfl,λt e he=>kO,λid bM K=>by simp[l9]at K,G,λb ae=>by
   by_cases h:b<w.heap.size
   ·exact h
   ·simp[g,h]at ae,H,λid b h=>d7⟩
 have O:∀x∈xs,cY x:=λx Q=>E0 (aK2.1 ah x Q);refine(F.2 g w vs c (J.zX ah g rfl) (λi x v h _=>(O x (List.mem_of_getElem? h)).gG)).mono ?_;rintro e w' ⟨v,r',H',g',rfl,R,a,T,V,W⟩;have p:∀b,b<w.heap.size->g'.bO b=.outer/\w'.heap[b]?=w.heap[b]?/\∀o,g'.γ b o=γ b o:=λb ae=>a.outer b (by simp[g,ae]);obtain⟨X,Y⟩:=R _ _ _ _ V W;refine⟨v,g'.γ,rfl,a.γ,a.size,λb ae=>(p b ae).2,⟨a.os,a.out⟩,T.fI,X.EZ C _ rfl,?_⟩;intro e sz Z ah;obtain⟨j,z,us,m1,m2,m3,m4,m5,m6,m7,m8,y⟩:=Y e sz Z ah;refine⟨j,z,us,m1,m2,m3,m4,m5,m6,m7,m8,λb ae=>⟨?_,(y b ae).2⟩⟩;have q:=(y b ae).1;have:¬b<w.heap.size:=λh=>by rw[(p b h).1]at q;cases q
 simp[we,this]
end
structure bp where
 rules:List aU
 given:List I
 st:ak->Option (List I)
 work:Nat
def gC(l:List I):AV:=.list none 2 (l.map I.enc)
theorem awZ(l:List I):(gC l).a1=.list none 2 (l.map I.enc):=_root_.id rfl
theorem aw1{q:ak}{v:List I}{id:Nat}{H:List ay}{l:List (ak×List I)}:va [1] (.str q) (.list none 2 (v.map I.enc)) id H (some (.map n (cI gC l)))=some (H.set id (.map (lo n l q) (cI gC (fV l q v)))):=Q0 rfl
def oq(l:List aU)(ax:List ak)(s:ak):List ak:=ax.filter λn=>(lE (mv l) s++[s]).contains n
def lF(l:List aU)(ns:List ak):List aU:=l.filter λr=>ns.contains r.head.name
def b2(st:ak->Option (List I))(ns:List ak):Nat:=(ns.filter λn=>(st n).isNone).length
def jK(st:ak->Option (List I))(g:List I)(ns:List ak):Nat:=ns.foldl (λk n=>k+((st n).getD []).length) g.length
def hI(A:List I)(st:ak->Option (List I))(ns:List ak):ak->Option (List I):=λs=>if ns.contains s then some (A.filter λa=>a.name==s)else st s
def rC(l:List aU)(st:ak->Option (List I))(rel:ak):ak->Option (List I):=λs=>if(lE (mv l) s).contains rel then none else st s
theorem acU{α:Type}(C:ak->Bool)(s:ak):∀m:List (ak×α),getM (m.filter λp=>!C p.1) s=if C s then none else getM m s
 |[]=>by simp[getM]|(k,v)::r=>by
  have ih:=acU C s r;rw[List.filter_cons];cases a:C k with
  |true =>
   simp only[a,Bool.not_true,aK5,if_false];rw[ih,getM];by_cases h:s=k
   ·subst h;simp[a]
   ·rw[if_neg h]
  |false =>
   simp only[a,Bool.not_false,if_true];rw[getM,getM,ih];by_cases h:s=k
   ·subst h;simp[a]
   ·rw[if_neg h,if_neg h]
structure mX{α:Type}(C:ak->Bool)(m1:List (ak×α))(ks:List ak)(m:List (ak×α)):Prop where
 o8:ks.Nodup
 Dj:∀s∈ks,s∈cd m1
 n:(cd m).Nodup
 g:∀s,getM m s=if s∈ks/\C s=true then none else getM m1 s
section
variable {α:Type}{C:ak->Bool}{m1 m:List (ak×α)}{ks:List ak}
theorem mX.start(h:(cd m1).Nodup):mX C m1 [] m1:=⟨.nil,λs h=>d7,h,λs=>be⟩
theorem mX.len(h:mX C m1 ks m):ks.length<=m1.length:=by
 have:=List.Nodup.length_le_of_subset h.o8 h.Dj;simpa[cd]using this
theorem mX.next(h:mX C m1 ks m){q:ak}{a:α}(ar:(q,a)∈m)(d:q∉ks):mX C m1 (ks++[q]) (if C q then mm m q else m):=by
 have j:=(sE h.n).2 ar;have b:=h.g q;rw[if_neg (λe=>d e.1),j]at b;refine⟨?_,λs ax=>?_,?_,λs=>?_⟩
 ·rw[List.nodup_append];exact⟨h.o8,be,λx ah y f=>by rw[aK8]at f;rw[f];grind⟩
 ·rcases aKR.1 ax with ax|ax
  ·exact h.Dj s ax
  ·rw[aK8]at ax;rw[ax];by_cases i:q∈cd m1
   ·exact i
   ·rw[getM_none.2 i]at b;cases b
 ·split
  ·exact QX h.n _
  ·exact h.n
 ·split
  ·rename_i c;rw[QY h.n,h.g];by_cases ax:s=q
   ·subst ax;simp[c]
   ·simp[ax]
  ·rename_i c;rw[h.g];by_cases ax:s=q
   ·subst ax;simp[d,c]
   ·simp[ax]
theorem mX.done(h:mX C m1 ks m)(he:m.filter (λp=>!ks.contains p.1)=[])(s:ak):getM m s=if C s then none else getM m1 s:=by
 rw[h.g];by_cases b:C s=true
 ·by_cases ax:s∈ks
  ·rw[if_pos ⟨ax,b⟩,if_pos b]
  ·rw[if_neg (λe=>ax e.1),if_pos b];cases d:getM m1 s with
   |none=>rfl|some a =>
    have c:=h.g s;rw[if_neg (λe=>ax e.1),d]at c;have:(s,a)∈m.filter (λp=>!ks.contains p.1):=aKT.2 ⟨(sE h.n).1 c,by simpa using ax⟩;rw[he]at this;cases this
 ·rw[if_neg (λe=>b e.2),if_neg b]
end
attribute [go_sem 5000] awZ aw1
def l6(c:UInt8):Bool:=decide (c.toNat=32)||decide (c.toNat=10)
def Bg(c:UInt8):Bool:=decide (c.toNat=45)||(decide (48<=c.toNat)&&decide (c.toNat<=57))||(decide (97<=c.toNat)&&decide (c.toNat<=122))||(decide (65<=c.toNat)&&decide (c.toNat<=90))
def q3:ak->ak|[]=>[]|c::r=>if l6 c then q3 r else c::r
def sX:ak->ak|[]=>[]|c::r=>if Bg c then c::sX r else[]
def sY:ak->ak|[]=>[]|c::r=>if Bg c then sY r else c::r
def lq(r:ak):ak×ak:=(sX (q3 r),sY (q3 r))
def hJ(x:Nat)(r:ak):Bool×ak:=match q3 r with
 |[]=>(false,[])|c::q=>if c.toNat=x then(true,q)else(false,c::q)
mutual
def zg:Nat->ak->ak->Option (I×ak)
 |0,_,_=>none|f+1,n,r=>if(hJ 40 r).1 then(match DR f [] (hJ 40 r).2 with
   |none=>none|some (l,q)=>some (.mk n l,(hJ 41 q).2))else some (.mk n [],(hJ 40 r).2)
def DR:Nat->List I->ak->Option (List I×ak)
 |0,_,_=>none|f+1,l,r=>if r=[]then some (l,r)else match zg f (lq r).1 (lq r).2 with
  |none=>none|some (t,q)=>if(hJ 44 q).1 then DR f (l++[t]) (hJ 44 q).2 else some (l++[t],(hJ 44 q).2)
end
def xA(r:ak):ak×ak:=lq (lq (hJ 46 r).2).2
def xB(w:ak×ak):ak×ak:=if w.1=[110,111,116]then lq w.2 else w
def DS:Nat->List Lit->ak->Option (List Lit×ak)
 |0,_,_=>none|f+1,l,r=>if r=[]then some (l,r)else if(hJ 46 r).1 then some (l,(hJ 46 r).2)else
  if(xB (xA r)).1=[]then some (l,(xB (xA r)).2)else match zg f (xB (xA r)).1 (xB (xA r)).2 with
  |none=>none|some (t,q)=>DS f (l++[⟨decide ((xA r).1=[110,111,116]),t⟩]) q
def Hm(f:Nat)(n r:ak):Option (aU×ak):=match zg f n r with
 |none=>none|some (t,q)=>match DS f [] q with
  |none=>none|some (b,hT)=>some (⟨t,b⟩,hT)
def Bh:Nat->List aU->ak->Option (List aU)
 |0,_,_=>none|f+1,l,r=>if(lq r).1=[]then some l else match Hm f (lq r).1 (lq r).2 with
  |none=>none|some (x,q)=>Bh f (l++[x]) q
def Bi:Nat->List I->ak->Option (List I)
 |0,_,_=>none|f+1,l,r=>if r=[]then some l else match zg f (lq r).1 (lq r).2 with
  |none=>none|some (t,q)=>if(hJ 44 q).1 then Bi f (l++[t]) (hJ 44 q).2 else some (l++[t])
def ep(s r:ak):ay:=.cells [.str s,.int .i64 ((s.length-r.length:Nat):Int)]
theorem Hn:∀r:ak,q3 r <:+ r
 |[]=>aK6|c::r=>by
  rw[q3];split
  ·exact(Hn r).trans (List.suffix_cons c r)
  ·exact aK6
theorem amg:∀r:ak,sY r <:+ r
 |[]=>aK6|c::r=>by
  rw[sY];split
  ·exact(amg r).trans (List.suffix_cons c r)
  ·exact aK6
theorem xC(r:ak):(lq r).2 <:+ r:=(amg _).trans (Hn r)
theorem um(x:Nat)(r:ak):(hJ x r).2 <:+ r:=by
 have h:=Hn r;rw[hJ];split
 ·exact List.nil_suffix
 ·rename_i c q e;rw[e]at h;split
  ·exact(List.suffix_cons c q).trans h
  ·exact h
variable {r:ak}
theorem Ui{s:ak}{c:UInt8}(h:c::r <:+ s):r.length+1<=s.length/\s[s.length-(r.length+1)]?=some c/\r <:+ s/\s.length-(r.length+1)+1=s.length-r.length:=by
 obtain⟨p,rfl⟩:=h;refine⟨be,?_,⟨p++[c],be⟩,by simp only[aKZ,aKQ];omega⟩;rw[show(p++c::r).length-(r.length+1)=p.length by simp];simp
mutual
theorem zh:∀{f:Nat}{n r:ak}{t:I}{q:ak},zg f n r=some (t,q)->q <:+ r
 |0,_,_,_,_,h=>by cases h|f+1,n,r,t,q,h=>by
  rw[zg]at h;split at h
  ·split at h
   ·cases h
   ·rename_i l a e;simp only[Option.some.injEq,Prod.mk.injEq]at h;rw[<-h.2];exact((um 41 a).trans (amh e)).trans (um 40 r)
  ·simp only[Option.some.injEq,Prod.mk.injEq]at h;rw[<-h.2];exact um 40 r
theorem amh:∀{f:Nat}{l:List I}{r:ak}{m:List I}{q:ak},DR f l r=some (m,q)->q <:+ r
 |0,_,_,_,_,h=>by cases h|f+1,l,r,m,q,h=>by
  rw[DR]at h;split at h
  ·simp_all
  ·split at h
   ·cases h
   ·rename_i t a e;have b:=(zh e).trans (xC r);split at h
    ·exact((amh h).trans (um 44 a)).trans b
    ·simp only[Option.some.injEq,Prod.mk.injEq]at h;rw[<-h.2];exact(um 44 a).trans b
end
theorem ami(w:ak×ak):(xB w).2 <:+ w.2:=by
 unfold xB;split
 ·exact xC _
 ·exact aK6
theorem aMP(r:ak):(xA r).2 <:+ r:=((xC _).trans (xC _)).trans (um 46 r)
theorem amj:∀{f:Nat}{l:List Lit}{r:ak}{m:List Lit}{q:ak},DS f l r=some (m,q)->q <:+ r
 |0,_,_,_,_,h=>by cases h|f+1,l,r,m,q,h=>by
  rw[DS]at h;have a:=(ami (xA r)).trans (aMP r);split at h
  ·simp_all
  ·split at h
   ·simp only[Option.some.injEq,Prod.mk.injEq]at h;rw[<-h.2];exact um 46 r
   ·split at h
    ·simp only[Option.some.injEq,Prod.mk.injEq]at h;rw[<-h.2];exact a
    ·split at h
     ·cases h
     ·rename_i t b e;exact((amj h).trans (zh e)).trans a
variable {f:Nat}
theorem aMQ{n:ak}{x:aU}{q:ak}(h:Hm f n r=some (x,q)):q <:+ r:=by
 unfold Hm at h;split at h
 ·cases h
 ·rename_i t d a;split at h
  ·cases h
  ·rename_i b e c;simp only[Option.some.injEq,Prod.mk.injEq]at h;rw[<-h.2];exact(amj c).trans (zh a)
def vu(e:Nat)(l:List I):AV:=if l=[]then .aS 2 else .list (some e) 2 (l.map I.enc)
def uo(e:Nat)(l:List AV):AV:=if l=[]then .aS 3 else .list (some e) 3 l
theorem aMR(e:Nat)(l:List I):bx (vu e l) (.list none 2 (l.map I.enc)):=by
 unfold vu;split
 ·simp_all[bx.aS]
 ·exact bx.disown _ _ _
theorem aMS(e:Nat)(l:List AV):bx (uo e l) (.list none 3 l):=by
 unfold uo;split
 ·simp_all[bx.aS]
 ·exact bx.disown _ _ _
theorem bB.kX{P:Program}{gl:cQ}{xs:List AV}{H:List ay}{K:AV->List ay->Prop}(h:bB P gl f xs H λa H'=>∃r,bx a r/\cY r/\K r H'):bB P gl f xs H K :=
 ⟨h.1,λg w vs b c d=>(h.2 g w vs b c d).mono λ_ _ ⟨v,a,H',g',e,⟨r,ba,i,j⟩,o,p,q,_⟩=>⟨v,r,H',g',e,j,o,p,ba _ _ q,i.gG⟩⟩
theorem Ho{s:ak}(h:r <:+ s):r.length<=s.length:=h.length_le
def lZ(b:aY):List aY->List aY
 |[]=>[b]|x::r=>if Op.bytesLess b.var x.var then b::x::r else x::lZ b r
mutual
def b3:I->I->List aY->List aY×Bool
 |.mk n l,g,s=>if eJ (.mk n l)then(match jr s n with|some u=>(s,hi u g)|none=>(lZ ⟨n,g⟩ s,true))
  else if n != g.name||decide (l.length≠g.args.length)then([],false)else kl l g.args s
def kl:List I->List I->List aY->List aY×Bool
 |p::ps,g::gs,s=>if(b3 p g s).2 then kl ps gs (b3 p g s).1 else((b3 p g s).1,false)|[],_,s=>(s,true)|_::_,[],s=>(s,true)
end
def LB(p g:I):List aY×Bool :=
 if !cD 4 g false then([],false)else if(b3 p g []).2&&q1 (b3 p g []).1 then((b3 p g []).1,true)else([],false)
def mA(s:List aY):Prop:=s.Pairwise λx y=>du x.var y.var<0
theorem axA(c:Nat->Bool)(hm:∀i j,i<=j->j<n->c j=true->c i=true):∀f bc al,al-bc<=f->bc<=al->al<=n->(∀i,i<bc->c i=true)->(∀i,al<=i->i<n->c i=false)->(∀i,i<p8 c f bc al->c i=true)/\∀i,p8 c f bc al<=i->i<n->c i=false:=λf=>by
 induction f with
 |zero =>
  intro bc al p q e a b;obtain rfl:bc=al:=by omega
  exact⟨a,b⟩
 |succ f ih =>
  intro bc al p q e a b;rw[p8];by_cases h:bc<al
  ·rw[if_pos h];cases d:c ((bc+al) / 2)with
   |true =>
    rw[if_pos rfl];exact ih _ _ am am e (λi o=>hm i _ am am d) b
   |false =>
    rw[if_neg be];refine ih _ _ am am am a λi o v=>?_;cases w:c i with
    |false=>rfl|true=>rw[hm _ _ o v w]at d;cases d
  ·rw[if_neg h];obtain rfl:bc=al:=by omega
   exact⟨a,b⟩
variable {i:Nat}
theorem axC(h:mA s){j:Nat}(b:i<j)(a:j<s.length):du s[i]!.var s[j]!.var<0:=by
 have:=List.pairwise_iff_getElem.1 h i j am a b;rw[getElem!_pos s i am,getElem!_pos s j a];exact this
theorem adj(h:mA s)(v:ak):(∀i,i<oH s v->du s[i]!.var v<0)/\∀i,oH s v<=i->i<s.length->¬du s[i]!.var v<0:=by
 have:=axA (λk=>decide (du s[k]!.var v<0)) (n:=s.length) (λi j e c b=>by
  rcases Nat.lt_or_ge i j with a|a
  ·simp only[decide_eq_true_eq]at b ⊢;exact F2 _ _ _ (axC h a c) b
  ·obtain rfl:i=j:=by omega
   exact b) s.length 0 s.length am (Nat.zero_le _) (Nat.le_refl _) (λi al=>am) (λi al o=>am)
 refine⟨λi al=>by simpa using this.1 i al,λi a d=>by simpa using this.2 i a d⟩
variable {v:ak}
theorem adk(h:mA s)(a:∀i,i<k->du s[i]!.var v<0)(hk:k<=s.length)(b:k<s.length->¬du s[k]!.var v<0):oH s v=k:=by
 obtain⟨c,d⟩:=adj h v;have o:=Jp s v;rcases Nat.lt_trichotomy (oH s v) k with e|he|j
 ·exact absurd (a _ e) (d _ (Nat.le_refl _) am)
 ·exact he
 ·exact absurd (c k j) (b am)
variable {x:aY}{r:List aY}
theorem Hi :(x::r)[i+1]! = r[i]!:=by simp[List.getElem!_eq_getElem?_getD]
theorem Bj :(x::r)[0]! = x:=rfl
theorem LD(h:mA (x::r))(ah:du x.var v<0):oH (x::r) v=oH r v+1:=by
 have a:mA r:=(aKX.1 h).2;obtain⟨b,c⟩:=adj a v;refine adk h (λi al=>?_) (by have:=Jp r v;simp only[aKQ];omega) λd=>?_
 ·cases i with
  |zero=>rw[Bj];exact ah|succ i=>rw[Hi];exact b i am
 ·rw[Hi];exact c _ (Nat.le_refl _) (by simp only[aKQ]at d;omega)
theorem adl(h:mA (x::r))(ah:¬du x.var v<0):oH (x::r) v=0 :=
 adk h (λi al=>am) (Nat.zero_le _) λ_=>by rw[Bj];exact ah
theorem Hj:∀{s:List aY}(_:mA s)(v:ak),jr s v=if sS s v then some s[oH s v]!.term else none
 |[],_,v=>rfl|x::r,h,v=>by
  have j:mA r:=(aKX.1 h).2;by_cases ah:du x.var v<0
  ·have ih:=Hj j v;have cG:(x.var==v)=false:=by
    cases a:x.var==v with
    |false=>rfl|true=>rw[eq_of_beq a,mY.2 rfl]at ah;omega
   have o:jr (x::r) v=jr r v:=by unfold jr;rw[aK9,cG]
   have c:sS (x::r) v=sS r v:=by
    unfold sS;rw[LD h ah,Hi,aKQ];congr 1
    rw[decide_eq_decide];omega
   rw[o,c,ih,LD h ah,Hi]
  ·have ar:=adl h ah;have c:sS (x::r) v=(x.var==v):=by
    unfold sS;rw[ar,Bj,decide_eq_true be,Bool.true_and];cases a:x.var==v with
    |true=>rw[eq_of_beq a,mY.2 rfl];rfl|false =>
     have:du x.var v≠0:=λe=>by rw[mY.1 e]at a;simp at a
     simpa using this
   rw[c,ar,Bj];cases a:x.var==v with
   |true=>unfold jr;rw[aK9,a];rfl|false =>
    rw[if_neg be];unfold jr;rw[aK9,a];have:r.find? (λb=>b.var==v)=none:=List.find?_eq_none.2 λb ae=>by
     have d:=(aKX.1 h).1 b ae;intro e;have:=eq_of_beq e;rw[this]at d;exact ah d
    rw[this];rfl
theorem put_eq:∀{s:List aY}(_:mA s){b:aY},sS s b.var=false->ie s (oH s b.var) b=lZ b s/\mA (lZ b s)
 |[],_,b,_=>⟨rfl,List.pairwise_singleton _ _⟩|x::r,h,b,o=>by
  have w:mA r:=(aKX.1 h).2;have c:=CN b.var x.var;have G:=CY x.var b.var;by_cases ah:du x.var b.var<0
  ·have p:Op.bytesLess b.var x.var=false:=by
    cases d:Op.bytesLess b.var x.var with
    |false=>rfl|true=>rw[d,if_pos rfl]at c;omega
   have B:sS r b.var=false:=by
    have q:=Hj h b.var;have C:=Hj w b.var;have cG:(x.var==b.var)=false:=by
     cases d:x.var==b.var with
     |false=>rfl|true=>rw[eq_of_beq d,mY.2 rfl]at ah;omega
    have D:jr (x::r) b.var=jr r b.var:=by unfold jr;rw[aK9,cG]
    rw[o,if_neg be,D,C]at q;cases d:sS r b.var with
    |false=>rfl|true=>rw[d,if_pos rfl]at q;cases q
   obtain⟨j,F⟩:=put_eq w B;rw[lZ,p,if_neg be,<-j,LD h ah];refine⟨by simp[ie],aKX.2 ⟨λy a=>?_,by rw[j];exact F⟩⟩;simp only[ie,aKR,aKY]at a;rcases a with a|rfl|a
   ·exact(aKX.1 h).1 y (List.mem_of_mem_take a)
   ·exact ah
   ·exact(aKX.1 h).1 y (List.mem_of_mem_drop a)
  ·have ar:=adl h ah;have H:du x.var b.var≠0:=λe=>by
    unfold sS at o;rw[ar,Bj,decide_eq_true be,Bool.true_and,e]at o;cases o
   have p:Op.bytesLess b.var x.var=true:=by
    cases d:Op.bytesLess b.var x.var with
    |true=>rfl|false =>
     rw[d,if_neg be]at c;split at c<;>omega
   rw[lZ,p,if_pos rfl,ar];refine⟨rfl,aKX.2 ⟨λy a=>?_,h⟩⟩;have z:du b.var x.var<0:=by rw[c,p,if_pos rfl];decide
   rcases aKY.1 a with rfl|a
   ·exact z
   ·exact F2 _ _ _ z ((aKX.1 h).1 y a)
theorem axD(t:I):zf t=eJ t:=rfl
mutual
theorem ado:∀(p g:I)(s:List aY),mA s->(b3 p g s).2=(oI p g s).2/\((oI p g s).2=true->b3 p g s=oI p g s/\mA (oI p g s).1)
 |.mk n l,g,s,h=>by
  rw[b3,oI,axD];cases j:eJ (.mk n l)with
  |true =>
   rw[if_pos rfl,if_pos rfl,Hj h];cases d:sS s n with
   |true=>rw[if_pos rfl,if_pos rfl];exact⟨rfl,λ_=>⟨rfl,h⟩⟩|false =>
    obtain⟨c,e⟩:=put_eq h (b:=⟨n,g⟩) d;rw[if_neg be,if_neg be];simp only at c;exact⟨rfl,λ_=>⟨by rw[c],by rw[c];exact e⟩⟩
  |false =>
   simp only[aK5,if_false];by_cases a:(n != g.name||decide (l.length≠g.args.length))=true
   ·rw[if_pos a,if_pos a];exact⟨rfl,λh=>d7⟩
   ·rw[if_neg a,if_neg a];exact adp l g.args s h
theorem adp:∀(l m:List I)(s:List aY),mA s->(kl l m s).2=(sT l m s).2/\((sT l m s).2=true->kl l m s=sT l m s/\mA (sT l m s).1)
 |p::ps,g::gs,s,h=>by
  obtain⟨a,b⟩:=ado p g s h;rw[kl,sT,a];cases c:(oI p g s).2 with
  |true =>
   obtain⟨d,e⟩:=b c;rw[if_pos rfl,cond_true,d];exact adp ps gs _ e
  |false=>rw[if_neg be,cond_false];exact⟨rfl,λh=>d7⟩
 |[],m,s,h=>by rw[kl,sT];exact⟨rfl,λ_=>⟨rfl,h⟩⟩|_::_,[],s,h=>by rw[kl,sT];exact⟨rfl,λ_=>⟨rfl,h⟩⟩
end
theorem axE(p g:I):(LB p g).2=(sU p g).2:=by
 obtain⟨a,b⟩:=ado p g [] .nil;unfold LB sU;split
 ·rfl
 ·rw[a];cases c:(oI p g []).2 with
  |true=>rw[(b c).1]|false=>rfl
open Go Go.ChangeShapes Go.WideShapes
def LL(P:Program)(L:List TypeId):Bool:=L.all λt=>match P.underlying t with
 |some (.slice e)=>decide (0<P.cellsOf e)&&L.contains e|some (.pointer e)=>L.contains e|some (.struct dC)=>dC.toList.all λf=>L.contains f.type|some (.array _ e)=>L.contains e|some (.map _ e)=>L.contains e|_=>true
section
variable {H:Type}{L:List TypeId}{enc:TypeId×Value->H}{P:Program}{w w':World}{base:Nat}
theorem aNi(K:LL P L=true){r r':TypeId->List Value->Option (DataW H×List MemPlace)}(B:∀t cs x,t∈L->r t cs=some x->r' t cs=some x){t:TypeId}(cf:t∈L){cs:List Value}{x:DataW H×List MemPlace}
  (h:DataW.trodStep enc P w base (λ_=>true) true r t cs=some x):DataW.trodStep enc P w base (λb=>decide (b<w.heap.size)) true r' t cs=some x:=by
 have ej:=aK2.1 K t cf;unfold DataW.trodStep at h ⊢;split at h<;>first|exact h|skip
 case h_6 ax =>
  simp only[ax,aK7,decide_eq_true_eq]at ej;simp only[aKU,aK4]at h ⊢;obtain⟨y,⟨j,o,O⟩,rfl⟩:=h;exact⟨y,⟨j,o,B _ _ _ ej O⟩,rfl⟩
 case h_8 e a len cap ax =>
  simp only[ax,aK1,aK7,decide_eq_true_eq]at ej;simp only at h ⊢;split at h
  ·rename_i o;rw[if_pos o];simp only[if_true,aKU,aK4]at h ⊢;obtain⟨elems,he,p,C,rfl⟩:=h;have one:∀(i:Nat)y,(w.cells? base (a.add (i*P.cellsOf e)) (P.cellsOf e)).bind (r e)=some y->(w.cells? base (a.add (i*P.cellsOf e)) (P.cellsOf e)).bind (r' e)=some y:=λi y c=>by
    simp only[aK4]at c ⊢;obtain⟨j,F,G⟩:=c;exact⟨j,F,B _ _ _ ej.2 G⟩
   refine⟨elems,mapM_carry he λi y _ _ c=>one i y c,p,?_,rfl⟩;by_cases ae:a.block<w.heap.size
   ·rw[if_pos mu];exact mapM_carry C λi y _ _ c=>one _ y c
   ·rw[if_neg mu];have D:cap-len=0:=by
     rcases Nat.eq_zero_or_pos (cap-len)with D|D
     ·exact D
     ·exfalso;have Q:p.length=cap-len:=by simpa using mapM_some_length C
      have F:=mapM_some_get C 0 0 (by simp[D]);rw[List.getElem?_eq_getElem am,aK4]at F;obtain⟨j,G,_⟩:=F;have:=World.cells?_block G ej.1;refine ae ?_;unfold Addr.add at this;split at this
      ·exact this
      ·exact this
    rw[D]at C;simpa using C
  ·cases h
 case h_9 ax =>
  simp only[ax,aK2,aK7,decide_eq_true_eq]at ej;split at h
  ·rename_i o;rw[if_pos o];simp only[aKU]at h ⊢;obtain⟨xs,ah,rfl⟩:=h;exact⟨xs,mapM_carry ah (λf y J _ c=>B _ _ _ (ej f J) c),rfl⟩
  ·cases h
 case h_10 ax =>
  simp only[ax,aK7,decide_eq_true_eq]at ej;split at h
  ·rename_i o;rw[if_pos o];simp only[aKU]at h ⊢;obtain⟨xs,ah,rfl⟩:=h;exact⟨xs,mapM_carry ah (λf y _ _ c=>B _ _ _ ej c),rfl⟩
  ·cases h
 case h_14 ax =>
  simp only[ax,aK7,decide_eq_true_eq]at ej;split at h
  ·split at h
   ·rename_i o;rw[if_pos o];simp only[aK4]at h ⊢;obtain⟨d,he,hd⟩:=h;refine⟨d,mapM_carry he (λx y _ _ c=>?_),hd⟩;simp only[aK4]at c ⊢;obtain⟨key,hk,z⟩:=c;refine⟨key,hk,?_⟩;split at z
    ·rename_i J;rw[if_pos J];simp only[aKU]at z ⊢;obtain⟨q,z,rfl⟩:=z;exact⟨q,B _ _ _ ej z,rfl⟩
    ·cases z
   ·cases h
  ·cases h
theorem amt(a:LL P L=true):∀(n:Nat)(t:TypeId)(cs:List Value)(x:DataW H×List MemPlace),t∈L ->
  DataW.trod enc P w base (λ_=>true) true n t cs=some x->DataW.trod enc P w base (λb=>decide (b<w.heap.size)) true n t cs=some x
 |0,_,_,_,_,h=>by simp[DataW.trod]at h|n+1,t,cs,x,cf,h=>by
  rw[DataW.trod_step]at h ⊢;exact aNi a (amt a n) cf h
theorem amu(c:LL P L=true):∀{bE:List TypeId}{vs:List Value}{hz:List (DataW H)}{ps:List MemPlace},(∀t∈bE,t∈L)->DataW.TrodAll enc P w base (λ_=>true) true bE vs hz ps->DataW.TrodAll enc P w base (λb=>decide (b<w.heap.size)) true bE vs hz ps
 |[],_,_,_,_,h=>by
  obtain⟨rfl,rfl,rfl⟩:=trodAll_nil h;exact rfl
 |t::_,_,_,_,cf,h=>by
  obtain⟨v,e,d,j,a,b,rfl,rfl,rfl,⟨n,o⟩,p⟩:=trodAll_cons h;exact⟨a,b,⟨n,amt c _ _ _ _ (cf t be) o⟩,amu c (λt q=>cf t (by simp[q])) p,rfl⟩
theorem aNj(a:∀b,b<w.heap.size->w'.heap[b]?=w.heap[b]?){p:MemPlace}(ar:p.block<w.heap.size):w.sameAt w' p:=by
 cases p with
 |cell b off=>simp only[World.sameAt,World.cell?];rw[a b ar]|map b=>exact a b ar
theorem aNk{f:Func}{s:ChangeSpec}{c B e C:Bool}{W y:World}{args:Array Value}{v:Value}{hz F:List (DataW H)}{z:List MemPlace}
  (V:LL P L=true)(cf:∀t∈f.params.toList,t∈L)(K:s.vars=[])
  (O:DataW.Whole enc P f.params.toList s.vars c W args.toList hz F z)
  (Q:∀(b:Nat)(D:Nat->Bool)(hd:Bool),DataW.TrodAll enc P y b D hd f.resultTypes.toList (v.resultList f.resultTypes.size) (s.fn H (hz++F)).results [])
  (X:(s.fn H (hz++F)).args=hz)(Y:(s.fn H (hz++F)).vars=[])
  (R:∀b,b<W.heap.size->y.heap[b]?=W.heap[b]?)(Z:y.os=W.os)(nA:y.output=W.output)
  (b9:∀(j:Nat)(t:TypeId)(r:Value),f.resultTypes[j]?=some t->(v.resultList f.resultTypes.size)[j]?=some r->Value.okWide P y .any 0 t r) :
  s.post enc P f c B e C W args v y:=by
 have bJ:=O.lt;have Uo:=O;obtain⟨p,q,cE,T,rfl,Gx,pB⟩:=O;rw[K]at T;obtain⟨rfl,rfl⟩:F=[]/\q=[]:=trodVars_none T;have G:∀x∈p,x.block<W.heap.size:=λx ah=>bJ x (by simp[ah])
 -- places are carried along with what is read
 have o:∀(D:Nat->Bool),DataW.TrodAll enc P W 0 D true f.params.toList args.toList hz p->DataW.TrodAll enc P y 0 D true f.params.toList args.toList hz p:=by
  intro D;generalize f.params.toList=bE;generalize args.toList=vs;revert bE vs;have key:∀(bE:List TypeId)(vs:List Value)(hz:List (DataW H))(J:List MemPlace),(∀x∈J,x.block<W.heap.size)->DataW.TrodAll enc P W 0 D true bE vs hz J->DataW.TrodAll enc P y 0 D true bE vs hz J:=by
   intro bE;induction bE with
   |nil=>intro vs hz J _ h;obtain⟨rfl,rfl,rfl⟩:=trodAll_nil h;exact rfl
   |cons t bE ih =>
    intro vs hz J ar h;obtain⟨v,amv,d,amw,a,b,rfl,rfl,rfl,⟨n,ab⟩,an⟩:=trodAll_cons h;exact⟨a,b,⟨n,DataW.trod_carry n _ _ _ ab λx ah=>aNj R (ar x (by simp only[aKR];exact .inl ah))⟩,ih _ _ _ (λx ah=>ar x (by simp only[aKR];exact .inr ah)) an,rfl⟩
  intro bE vs h;exact key bE vs hz p G h
 have Du:DataW.TrodAll enc P y 0 (λb=>decide (b<W.heap.size)) true f.params.toList args.toList hz p:=o _ (amu V cf cE);have lR:DataW.TrodAll enc P y 0 (λ_=>true) true f.params.toList args.toList hz p:=o _ cE;refine⟨hz,[],p++[],[],p,[],Uo,Q _ _ _,by rw[X];exact Du,by rw[K,Y];exact rfl,⟨Z,nA,λi al=>?_⟩,λ_=>⟨b9,_,[],([]++p)++[],⟨[]++p,[],trodAll_append lR (Q _ _ _),by rw[K];rfl,rfl,?_,?_⟩,?_⟩⟩
 ·grind
 ·intro b off ar;have:=Gx b off (by simpa using ar);have ae:b<W.heap.size:=G (.cell b off) (by simpa using ar);simp only[World.frozen?]at this ⊢;rw[R b ae];exact this
 ·intro aG;simpa using pB aG
 ·intro x ah _;simpa using ah
end
structure nn where
 s:List UInt8
 n:Int
 a:Bool
 b:Bool
def nn.DY{H:Type}(k:nn):DataW H:=.agg [.lit (.string k.s),.lit (.int .i64 k.n),.lit (.bool k.a),.lit (.bool k.b)]
def nn.cells(k:nn):List AV:=[.str k.s,.int .i64 k.n,.bool k.a,.bool k.b]
def nn.nw(k:nn):List Value:=[.string ⟨k.s.toArray⟩,.int .i64 k.n,.bool k.a,.bool k.b]
structure LM(P:Program)(A R S rv B:TypeId)(n:Nat):Prop where
 cE:P.underlying A=some (.array n R)
 de:∃f0 f1 f2 f3:Field,P.underlying R=some (.struct #[f0,f1,f2,f3])/\f0.type=S/\f0.offset=0/\f1.type=rv/\f1.offset=1/\f2.type=B/\f2.offset=2/\f3.type=B/\f3.offset=3
 ds:P.underlying S=some .string
 gq:P.underlying rv=some (.int .i64)
 fN:P.underlying B=some .bool
 aNl:P.cellsOf A=n*4
 Hb:P.cellsOf R=4
 OM:P.cellsOf S=1
 aNm:P.cellsOf rv=1
 Lr:P.cellsOf B=1
section
variable {H:Type}{enc:TypeId×Value->H}{P:Program}{w:World}{base:Nat}{spare:Nat->Bool}{held:Bool}{A R S rv B:TypeId}{n:Nat}
variable {fuel:Nat}{cs:List Value}{ps:List MemPlace}
theorem aNn(T:LM P A R S rv B n){k:nn}(h:DataW.trod enc P w base spare held fuel R cs=some (k.DY,ps)):cs=k.nw:=by
 obtain⟨O,Q,V,W,de,X,Y,Z,l2,aR,jx,fe,mg⟩:=T.de;obtain⟨xs,m,hm,ah,D,nS,d⟩:=DataW.trod_struct de h;rw[T.Hb]at D
 match cs,D with
 |[j3,c1,c2,gv],_ =>
  have c:=congrArg Prod.fst ah;simp only[nn.DY,DataW.agg.injEq]at c
  match xs,c with
  |[aM,x1,x2,x3],c =>
   simp only[aK0,List.map_nil,List.cons.injEq,and_true]at c;obtain⟨e,j,o,p⟩:=c;have q:=d 0 O rfl;have y:=d 1 Q rfl;have z:=d 2 V rfl;have C:=d 3 W rfl;rw[X,Y,T.OM]at q;rw[Z,l2,T.aNm]at y;rw[aR,jx,T.Lr]at z;rw[fe,mg,T.Lr]at C;simp only[List.drop_zero,List.take_succ_cons,List.take_zero,List.drop_succ_cons,List.getElem?_cons_zero,List.getElem?_cons_succ]at q y z C;obtain⟨s,F,z0,_⟩:=DataW.trod_string T.ds q;obtain⟨i,G,gB,_⟩:=DataW.trod_int T.gq y;obtain⟨a,J,z2⟩:=DataW.trod_bool T.fN z;obtain⟨b,K,z3⟩:=DataW.trod_bool T.fN C;subst z0 gB z2 z3;simp only[DataW.lit.injEq,Lit.string.injEq,Lit.int.injEq,Lit.bool.injEq,true_and]at e j o p;simp only[List.cons.injEq,and_true]at F G J K;subst F G J K;obtain⟨ks,o8,pJ,rq⟩:=k;simp only at e j o p;subst e j o p;rfl
variable {ks:List nn}
theorem aNo(T:LM P A R S rv B n)(h:DataW.trod enc P w base spare held fuel A cs=some (.agg (ks.map nn.DY),ps)) :
  cs.length=n*4/\ks.length=n/\∀(i:Nat)k,ks[i]?=some k->(cs.drop (i*4)).take 4=k.nw:=by
 obtain⟨xs,m,hm,ah,j,C,o⟩:=DataW.trod_array T.cE h;have b:=congrArg Prod.fst ah;simp only[DataW.agg.injEq]at b;have p:ks.length=n:=by have:=congrArg List.length b;simp at this;omega
 refine⟨by rw[j,T.aNl],p,λi k hk=>?_⟩;have al:i<n:=by grind
 have c:=o i al;rw[T.Hb]at c;have e:(xs.map (·.1))[i]?=some k.DY:=by rw[<-b];simp[hk]
 rw[List.getElem?_map,aKU]at e;obtain⟨y,q,a⟩:=e;rw[q]at c;obtain⟨d,z⟩:=y;simp only at a;subst a;exact aNn T c
variable {γ:fA}
theorem amz{b:Nat}:∀(ks:List nn)(off:Nat),(∀k∈ks,k.s.length<=M)->(∀(i:Nat)k,ks[i]?=some k->∀j v,k.nw[j]?=some v->γ b (off+i*4+j)=some v)->fB γ b off (ks.map nn.cells).flatten
 |[],_,_,_=>.nil _ _|k::ks,off,c,h=>by
  have a:=h 0 k rfl;have d:=amz ks (off+4) (λk hk=>c k (by simp[hk])) λi e hk j v o=>by
   have:=h (i+1) e (by simpa using hk) j v o;rwa[show off+4+i*4+j=off+(i+1)*4+j by omega]
  simp only[aK0,List.flatten_cons,nn.cells,List.cons_append,List.nil_append];refine .cons _ _ _ _ _ (by simpa using a 0 _ rfl) rfl (.str _ (c k be)) (.cons _ _ _ _ _ (by simpa using a 1 _ rfl) rfl (.int _ _) (.cons _ _ _ _ _ (by simpa using a 2 _ rfl) rfl (.bool _) (.cons _ _ _ _ _ (by simpa using a 3 _ rfl) rfl (.bool _) d)))
theorem aNp(T:LM P A R S rv B n){name:String}{g:Nat}{W:World}(c:P.globalNamed name=some g)(e:(P.globals[g]?).map (·.type)=some A)(a:∀k∈ks,k.s.length<=M)
  (h:laidMet P [(name,.agg (ks.map nn.DY))] W)(y:∀b o v,W.cell? ⟨b,o,none⟩=some v->γ b o=some v):fB γ g 0 (ks.map nn.cells).flatten:=by
 obtain⟨ps,⟨g',K,cs,fuel,p,q,z,C,D,hd,_,_⟩,_⟩:=h;obtain rfl:=Option.some.inj (c.symm.trans z);obtain rfl:=Option.some.inj (e.symm.trans C);obtain⟨O,Q,F⟩:=aNo T hd;refine amz ks 0 a λi k hk j v d=>y _ _ _ ?_;rw[World.var?_cell c D,<-Array.getElem?_toList];have G:=F i k hk;have J:j<4:=by grind
 rw[<-G,List.getElem?_take,if_pos J,List.getElem?_drop]at d;simpa using d
end
end AM
