/- An abstract machine, and what of the given program it does, part 11. Conditions: none. -/
import Derived.Test.YtmmplkgkkkjojaaGreatDoorAm9
import Derived.ChangeSame
import Derived.OpenShut
import Derived.LaidLaws
set_option linter.unusedSimpArgs false
set_option linter.unusedVariables false
namespace AM
open List renaming mem_filter -> aKB,mem_map -> aKC,length_cons -> aKD,mem_cons_of_mem -> aKE,mem_flatMap -> aKF,mem_append -> aKG,map_cons -> aKH,length_append -> aKI,mem_cons -> aKK,length_nil -> aKM,all_eq_true -> aKN,range -> aKP,map_nil -> aKR,suffix_rfl -> aKS,contains_eq_mem -> aKT,mem_singleton -> aKU,countP_eq_length_filter -> aKW,countP_mono_left -> aKY
open Option renaming map_eq_some_iff -> aKJ,bind_eq_some_iff -> aKQ
open Bool renaming and_eq_true -> aKL,false_eq_true -> aKO,not_false -> aKV
open Nat renaming mul_le_mul_right -> aKX
open Go
mutual
def jt:I->Nat|.mk _ l=>1+oE l
def oE:List I->Nat|[]=>0|t::r=>jt t+oE r
end
theorem TC:∀{l:List I}{t:I},t∈l->jt t<=oE l
 |u::l,t,h=>by
  simp only[oE];rcases aKK.1 h with rfl|h
  ·omega
  ·have:=TC h;omega
theorem DL(t:I):1<=jt t:=by cases t;simp only[jt];omega
theorem ak8:∀l:List I,l.length<=oE l
 |[]=>by simp|t::r=>by have:=ak8 r;have:=DL t;simp only[aKD,oE];omega
variable {k:Nat}
theorem TD :∀(n:Nat)(t:I),jt t<=n->n<=60->fH k t->fH 59 t
 |0,t,h,_,_=>by have:=DL t;omega|n+1,.mk b l,h,c,aE=>by
  simp only[jt]at h;simp only[fH,DI]at aE ⊢;have:=ak8 l;exact⟨aE.1,am,λu a=>TD n u (by have:=TC a;omega) am (aE.2.2 u a)⟩
theorem Lu:∀(n:Nat)(t:I),jt t<=n->cc t<=n
 |0,t,h=>by have:=DL t;omega|n+1,.mk b l,h=>by
  simp only[jt]at h;have key:∀l:List I,oE l<=n->ja l<=n:=λl=>by
   induction l with
   |nil=>intro _;simp[ja]|cons u r ih =>
    intro a;simp only[oE]at a;have c:=Lu n u am;have d:=ih am;simp only[ja];omega
  have:=key l am;simp only[cc];omega
variable {t:I}
theorem TE{d:Nat}(h:cc t<=d+1):∀u∈t.args,cc u<=d:=λu a=>by
 have:=Av a;rw[u4]at h;omega
variable {m:Int}
theorem ak9{f:I->Int} :∀(l:List I)(n:Int),(∀t∈l,1<=f t)->ki f m l n<=m->n+(l.map f).sum=ki f m l n
 |[],n,_,_=>by simp[ki]|t::r,n,h,hm=>by
  have c:=h t be;by_cases a:n>m
  ·simp only[ki,if_pos a]at hm;omega
  ·simp only[ki,if_neg a]at hm ⊢;have:=ak9 r (n+f t) (λu b=>h u (aKE _ b)) hm;simp only[aKH,List.sum_cons];omega
theorem ala(hm:0<=m/\m<=1000):∀(d:Nat)(t:I),j6 m d t<=m->(jt t:Int)<=j6 m d t
 |0,t,h=>by
  simp only[j6]at h;omega
 |d+1,.mk f l,h=>by
  rw[ahl]at h ⊢;simp only[I.args]at h ⊢;have ae:=λu(a:u∈l)=>(Kl hm d u).1;have ax:=ak9 l 1 ae h;have c:=QT l 1 ae am h;have key:∀l:List I,(∀u∈l,(jt u:Int)<=j6 m d u)->(oE l:Int)<=(l.map (j6 m d)).sum:=λl=>by
   induction l with
   |nil=>intro _;simp[oE]|cons u r ih =>
    intro b;have g:=b u be;have i:=ih λw e=>b w (aKE _ e);simp only[oE,aKH,List.sum_cons];omega
  have j:=key l λu a=>ala hm d u (c.2 u a);simp only[jt];omega
theorem TF{m:Nat}(hm:m<=1000)(h:lM m t=true):jt t<=m:=by
 simp only[lM,decide_eq_true_eq]at h;have:=ala (m:=m) ⟨am,am⟩ _ t h;omega
def pn:Nat->Nat|0=>0|d+1=>1048579+59*pn d
theorem TG:∀(d:Nat)(t:I),fH 59 t->cc t<=d->(fy t).length+1<=pn d
 |0,t,_,h=>by rw[u4]at h;omega|d+1,.mk g l,aE,h=>by
  have hd:=TE h;simp only[fH,DI]at aE;have key:∀l:List I,(∀u∈l,(fy u).length+1<=pn d)->(iA l).length<=l.length*pn d:=λl=>by
   induction l with
   |nil=>intro _;simp[iA]|cons u r ih =>
    intro a;have e:=a u be;have b:=ih λw f=>a w (aKE _ f);simp only[iA,aKI,aKD,aKM,Nat.add_mul,Nat.one_mul]at b ⊢;omega
  have e:=key l λu c=>TG d u (aE.2.2 u c) (hd u c);have b:l.length*pn d<=59*pn d:=aKX _ aE.2.1;simp only[fy,pn,aKI,aKD,aKM];omega
theorem aJ8:pn 4<=M/\pn 3=3713018239:=by
 have:M=1099511627776:=rfl;rw[this];decide
theorem alb :∀(n:Nat)(t:I),fH k t->jt t<=n->(fy t).length+1<=jt t*1048579
 |0,t,_,h=>by have:=DL t;omega|n+1,.mk f l,aE,h=>by
  simp only[fH,DI]at aE;simp only[jt]at h ⊢;have key:∀l:List I,(∀u∈l,(fy u).length+1<=jt u*1048579)->(iA l).length<=oE l*1048579:=λl=>by
   induction l with
   |nil=>intro _;simp[iA]|cons u r ih =>
    intro a;have c:=a u be;have d:=ih λw e=>a w (aKE _ e);simp only[iA,oE,aKI,aKD,aKM]at d ⊢;omega
  have c:=key l λu b=>alb n u (aE.2.2 u b) (by have:=TC b;omega);simp only[fy,aKI,aKD,aKM];omega
theorem TH(a:(fy t).length<=1000000000000)(b:cc t<=1000000):qX t=true:=by
 have:M=1099511627776:=rfl;simp only[qX,aKL,decide_eq_true_eq];omega
def nj(s:List aY):Prop:=∀b∈s,fH 59 b.term/\cc b.term<=3
variable {s:List aY}{u:I}
theorem aJ9{n:ak}(h:jr s n=some u):∃b∈s,b.term=u:=by
 unfold jr at h;rw[aKJ]at h;obtain⟨b,a,c⟩:=h;exact⟨b,List.mem_of_find?_eq_some a,c⟩
theorem TI:∀(p t:I)(s:List aY),fH 59 t->cc t<=3->nj s->nj (fk p t s).1
 |.mk f l,t,s,aE,hd,ax=>by
  rw[fk];split
  ·split
   ·exact ax
   ·intro b ae;rw[aKG]at ae;rcases ae with ae|ae
    ·exact ax b ae
    ·grind
  ·split
   ·intro b ae;cases ae
   ·have key:∀(l m:List I)(s:List aY),(∀p∈l,∀(t:I)(s:List aY),fH 59 t->cc t<=3->nj s->nj (fk p t s).1)->(∀u∈m,fH 59 u/\cc u<=3)->nj s->nj (j9 l m s).1:=λl=>by
     induction l with
     |nil=>intro m s _ _ h;rw[j9];exact h;all_goals simp|cons x r ih =>
      intro m s c hm h;cases m with
      |nil=>rw[j9];exact h|cons y q =>
       have e:=c x be y s (hm y be).1 (hm y be).2 h;rw[j9];split
       ·simp_all
       ·exact e
    refine key l t.args s (λp ar t s=>TI p t s) (λu a=>⟨(Ha.1 aE).2.2 u a,?_⟩) ax;have:=TE (d:=2) hd u a;omega
theorem aKa(p t:I)(s:List aY)(f:t.args.length=p.args.length)(aE:fH 59 t)(hd:cc t<=4)(ax:nj s):nj (fk p t s).1:=by
 obtain⟨a,l⟩:=p;by_cases c:l.length=0
 ·refine TI (.mk a l) t s aE ?_ ax;rw[u4,List.length_eq_zero_iff.1 (f.trans c)];simp[ja]
 ·have g:mx (.mk a l)=false:=by(unfold mx;rw[show(I.mk a l).args.length=l.length from rfl,decide_eq_false c];rfl)
  rw[fk,g,if_neg be];split
  ·intro b ae;cases ae
  ·have key:∀(l m:List I)(s:List aY),(∀u∈m,fH 59 u/\cc u<=3)->nj s->nj (j9 l m s).1:=λl=>by
    induction l with
    |nil=>simp[j9]|cons x r ih =>
     intro m s hm h;cases m with
     |nil=>rw[j9];exact h|cons y q =>
      have i:=TI x y s (hm y be).1 (hm y be).2 h;rw[j9];split
      ·grind
      ·exact i
   exact key l t.args s (λu e=>⟨(Ha.1 aE).2.2 u e,TE (d:=3) hd u e⟩) ax
def Ba(A:List I):Prop:=∀a∈A,fH 59 a/\cc a<=4
theorem TJ(a:I)(s:List aY)(ax:nj s):∀(l:List I)(b:List (List aY))(left:Int)(q:List (List aY)×Int),Ba l->(∀s∈b,nj s)->k2 a s l b left=some q->∀s∈q.1,nj s
 |[],b,left,q,_,d,h=>by
  simp only[k2,Option.some.injEq]at h;subst h;exact d
 |t::bE,b,left,q,cE,d,h=>by
  rw[k2]at h;split at h
  ·exact TJ a s ax bE b left q (λu c=>cE u (aKE _ c)) d h
  ·rename_i g;by_cases e:(decide (left-1<0)||decide ((if(fk a t s).2 then b++[(fk a t s).1]else b).length>5000))=true
   ·rw[if_pos e]at h;cases h
   ·rw[if_neg e]at h;refine TJ a s ax bE _ _ q (λu c=>cE u (aKE _ c)) ?_ h;have f:t.args.length=a.args.length:=by grind
    have i:=aKa a t s f (cE t be).1 (cE t be).2 ax;intro u c;split at c
    ·grind
    ·exact d u c
theorem alc(a:I)(A:List I)(cE:Ba A):∀(l b:List (List aY))(left:Int)(q:List (List aY)×Int),(∀s∈l,nj s)->(∀s∈b,nj s)->my a A l b left=some q->∀s∈q.1,nj s
 |[],b,left,q,_,c,h=>by
  simp only[my,Option.some.injEq]at h;subst h;exact c
 |s::r,b,left,q,d,c,h=>by
  rw[my]at h;split at h
  ·cases h
  ·rename_i e f he;exact alc a A cE r e f q (λu g=>d u (aKE _ g)) (TJ a s (d s be) A b left _ cE c he) h
theorem TK(A:List I)(cE:Ba A):∀(body:List Lit)(out:List (List aY))(left:Int)(q:List (List aY)×Int),(∀s∈out,nj s)->js A body out left=some q->∀s∈q.1,nj s
 |[],out,left,q,aE,h=>by
  simp only[js,Option.some.injEq]at h;subst h;exact aE
 |x::r,out,left,q,aE,h=>by
  rw[js]at h;split at h
  ·exact TK A cE r out left q aE h
  ·split at h
   ·cases h
   ·rename_i a b he;exact TK A cE r a b q (alc x.atom A cE out [] left _ aE (λ_ h=>d6) he) h
theorem ald(ax:nj s):∀(n:Nat)(h u:I),jt h<=n->fH 59 h->hv h s=some u->fH 59 u/\(fy u).length+1<=jt h*(1048579+pn 3)/\cc u<=n+3
 |0,h,u,a,_,_=>by have:=DL h;omega|n+1,.mk e l,u,a,aE,al=>by
  rw[hv]at al;split at al
  ·obtain⟨b,ae,rfl⟩:=aJ9 al;obtain⟨c,f⟩:=ax b ae;refine⟨c,?_,am⟩;have w:=TG 3 b.term c f;have z:1*(1048579+pn 3)<=jt (.mk e l)*(1048579+pn 3):=aKX _ (DL _);omega
  ·rw[aKJ]at al;obtain⟨m,hm,rfl⟩:=al;simp only[fH,DI]at aE ⊢;simp only[jt]at a ⊢;have key:∀(l m:List I),oE l<=n->(∀u∈l,fH 59 u)->kN l s=some m->(∀u∈m,fH 59 u)/\(iA m).length<=oE l*(1048579+pn 3)/\ja m<=n+3:=λl=>by
    induction l with
    |nil=>intro m _ _ h;simp only[kN,Option.some.injEq]at h;subst h;simp[iA,ja]|cons x r ih =>
     intro m g aE h;simp only[oE]at g;rw[kN]at h;split at h
     ·cases h
     ·rename_i y i;rw[aKJ]at h;obtain⟨q,j,rfl⟩:=h;obtain⟨A,o,a3⟩:=ald ax n x y am (aE x be) i;obtain⟨B,en,lD⟩:=ih q am (λu d=>aE u (aKE _ d)) j;refine⟨λu d=>?_,?_,?_⟩
      ·grind
      ·simp only[iA,oE,aKI,aKD,aKM,Nat.add_mul]at o en ⊢;omega
      ·simp only[ja];omega
   obtain⟨p,v,C⟩:=key l m am aE.2.2 hm;refine⟨⟨aE.1,by rw[akm hm];exact aE.2.1,p⟩,?_,by simp only[cc];omega⟩;simp only[fy,aKI,aKD,aKM,Nat.add_mul]at v ⊢;omega
variable {S:List I}
theorem ale(ds:Ba S):∀(l:List aU)(more:List I)(left:Int)(q:List I×Int),(∀r∈l,fH 59 r.head/\jt r.head<=20)->(∀t∈more,fH 59 t/\qX t=true)->rS S l more left=some q->∀t∈q.1,fH 59 t/\qX t=true
 |[],more,left,q,_,hm,h=>by
  simp only[rS,Option.some.injEq]at h;subst h;exact hm
 |r::l,more,left,q,c,hm,h=>by
  rw[rS]at h;split at h
  ·cases h
  ·rename_i all e he;refine ale ds l _ e q (λr f=>c r (aKE _ f)) ?_ h;intro t a;rw[aKG]at a;rcases a with a|a
   ·exact hm t a
   ·obtain⟨s,ax,al⟩:=List.mem_filterMap.1 a;obtain⟨g,d⟩:=c r be;obtain⟨i,j,a3⟩:=ald (TK S ds r.body [[]] left _ (λs ax=>by rw[aKU]at ax;subst ax;intro b ae;cases ae) he s ax) 20 _ _ d g al;have n:jt r.head*(1048579+pn 3)<=20*(1048579+pn 3):=aKX _ d;rw[aJ8.2]at j n;exact⟨i,TH am am⟩
theorem aKb(h:fH 59 t/\cc t<=4)(a:kP t=some u):fH 59 u/\qX u=true:=by
 have key:∀n:ak,n.length<=4->fH 59 (.mk n t.args)/\qX (.mk n t.args)=true:=λn d=>by
  have b:fH 59 (.mk n t.args):=Ha.2 ⟨by simp only[I.name];omega,(Ha.1 h.1).2⟩;have c:cc (.mk n t.args)<=4:=by have:=h.2;rw[u4]at this ⊢;exact this
  have e:=TG 4 _ b c;have f:pn 4=219069124680:=by decide
  exact⟨b,TH am am⟩
 unfold kP at a;split at a
 ·cases a;exact key _ dw
 ·grind
theorem TL:∀(l:List I)(p:List (ak×Bool)×List I),(∀t∈l,fH 59 t)->Ba p.2->Ba (l.foldl gZ p).2
 |[],p,_,h=>h|t::l,p,b,h=>by
  rw[List.foldl_cons];refine TL l _ (λu d=>b u (aKE _ d)) ?_;unfold gZ;split
  ·rename_i c;simp only[aKL,decide_eq_true_eq]at c;intro a aG;simp only[aKG,aKU]at aG;rcases aG with aG|rfl
   ·exact h a aG
   ·exact⟨b _ be,c.2⟩
  ·exact h
variable {l:List aU}
theorem alf(b:∀r∈l,fH 59 r.head/\jt r.head<=20):∀(f:Nat)(p:List (ak×Bool)×List I)(n left:Int),Ba p.2->n<=1000->1002<=f+n->(y8 l f p n left).isSome=true
 |0,p,n,left,_,h1,d=>by omega|f+1,p,n,left,ar,h1,d=>by
  rw[y8];split
  ·rename_i e;simp only[aKL,decide_eq_true_eq]at e;cases hm:rS p.2 l [] left with
   |none=>rfl|some q =>
    obtain⟨more,o⟩:=q;have g:=ale ar l [] left _ b (λ_ h=>d6) hm;have c:∀t∈more++p.2.filterMap kP,fH 59 t/\qX t=true:=λt a=>by
     rw[aKG]at a;rcases a with a|a
     ·exact g t a
     ·obtain⟨u,i,j⟩:=List.mem_filterMap.1 a;exact aKb (ar u i) j
    simp only;rw[if_neg (by
     rw[aKN.2 λt a=>(c t a).2];simp)]
    exact alf b f _ _ _ (TL _ _ (λt a=>(c t a).1) ar) am am
  ·rfl
variable {g:List I}
theorem alg(c:∀r∈l,fH k r.head/\jt r.head<=20)(b:∀a∈g,fH k a/\jt a<=60):(kb l g).isSome=true:=by
 have e:∀a∈g,fH 59 a:=λa aG=>TD 60 a (b a aG).2 am (b a aG).1;unfold kb;rw[if_neg (by
  rw[aKN.2 λa aG=>TH (t:=a) (by have f:=alb 60 a (b a aG).1 (b a aG).2;have:=(b a aG).2;omega) (by have:=Lu 60 a (b a aG).2;omega)];simp)]
 exact alf (λr d=>⟨TD 20 _ (c r d).2 am (c r d).1,(c r d).2⟩) _ _ _ _ (TL _ _ e (by intro a aG;cases aG)) am am
variable {L:List aU}{A:List I}{r:aU}
theorem sR.We(C:sR L A)(d:r∈L)(ds:∀a∈S,a∈A){h:I}(b:h∈nc S r)(hd:cc h<=4):h∈A:=by
 rw[nc,Ts]at b;obtain⟨c,e,rfl⟩:=aKC.1 b;exact C.c r d c (Fu ds _ _ c (aKB.1 e).1) hd
theorem sR.round(C:sR L A)(c:∀r∈l,r∈L)(ds:∀a∈S,a∈A)(hd:jR (eB l S)=false):∀h∈eB l S,h∈A:=λh b=>by
 have d:=b;rw[eB,aKF]at b;obtain⟨r,e,b⟩:=b;rw[jR,List.any_eq_false]at hd;have:=hd h d;exact C.We (c r e) ds b (by simpa using this)
theorem sR.Fv(C:sR L A)(o:∀r∈l,r∈L):∀(f:Nat)(S:List I),jo S->(∀a∈S,a∈A)->514<=f+S.length->1<=f->∃e b,xe f l S=some (e,b)/\jo b/\(∀a∈b,a∈A)/\∀a∈S,a∈b
 |0,S,_,_,_,h=>by omega|f+1,S,cE,ds,E,_=>by
  rw[xe];have d:gX S:=λa aG=>C.v a (ds a aG);cases hd:jR (eB l S)with
  |true=>exact⟨3,S,if_pos rfl,cE,ds,λ_ h=>h⟩|false =>
   rw[if_neg be];have p:=C.round o ds hd;by_cases i:kZ l S=[]
   ·exact⟨0,S,if_pos i,cE,ds,λ_ h=>h⟩
   ·rw[if_neg i];have j:∀a∈fx (S++kZ l S),a∈A:=λa aG=>by
     rw[rI,aKG]at aG;rcases aG with aG|aG
     ·exact ds a aG
     ·exact p a (ub.1 aG).1
    have n:=wZ (S++kZ l S);have q:(fx (S++kZ l S)).length<=A.length:=List.Nodup.length_le_of_subset (K1 n) j;have F:=C.n;rw[if_neg am];obtain⟨x,ah⟩:=List.exists_mem_of_ne_nil _ i;have y:x∉S:=λhm=>by
     have c:=(ub.1 ah).2;rw[(KY d (C.v x (p x (ub.1 ah).1))).2 hm]at c;cases c
    have G:S.length+1<=(fx (S++kZ l S)).length:=by
     have:=List.Nodup.length_le_of_subset (l₁:=x::S) (l₂:=fx (S++kZ l S)) (List.nodup_cons.2 ⟨y,K1 cE⟩) λa aG=>by
      rw[rI,aKG];rcases aKK.1 aG with rfl|aG
      ·exact .inr ah
      ·exact .inl aG
     simpa using this
    have v:∀a∈S,a∈fx (S++kZ l S):=λa aG=>by rw[rI,aKG];exact .inl aG
    by_cases w:512<(fx (S++kZ l S)).length
    ·rw[if_pos w];exact⟨11,_,rfl,n,j,v⟩
    ·rw[if_neg w];obtain⟨e,b,c,z,B,D⟩:=C.Fv o f _ n j am am;exact⟨e,b,c,z,B,λa aG=>D a (v a aG)⟩
theorem sR.Fx(C:sR L A)(f:∀r∈l,r∈L):∀(rows:List (List Nat))(S:List I),(∀b∈rows,∀k∈b,k<l.length)->jo S->(∀a∈S,a∈A)->∃e c,GJ l rows S=some (c,e)/\jo c/\(∀a∈c,a∈A)
 |[],S,_,cE,ds=>⟨0,S,rfl,cE,ds⟩|b::rows,S,hk,cE,ds=>by
  obtain⟨e,c,h,i,j,_⟩:=C.Fv (l:=b.map (l[·]!)) (λr d=>by
   obtain⟨k,n,rfl⟩:=aKC.1 d;exact f _ (ek (hk b be k n))) 600 S cE ds am am
  rw[GJ,h];by_cases he:e=0
  ·simp only[he,if_true];exact C.Fx f rows c (λr d=>hk r (aKE _ d)) i j
  ·simp only[he,if_false];exact⟨e,[],rfl,List.Pairwise.nil,be⟩
theorem Wf(C:sR L A)(b:∀r∈l,r∈L)(c:∀a∈g,a∈A):∃S e,iz l g=some (S,e)/\jo S/\∀a∈S,a∈A:=by
 unfold iz;split
 ·exact⟨_,_,rfl,List.Pairwise.nil,be⟩
 ·split
  ·exact⟨_,_,rfl,List.Pairwise.nil,be⟩
  ·split
   ·exact⟨_,_,rfl,List.Pairwise.nil,be⟩
   ·obtain⟨e,S,h⟩:=C.Fx b (oC l).1 (fx g) (λd f k hk=>aG7 f hk) (wZ g) (λa aG=>c a ((rI _ _).1 aG));exact⟨S,e,h⟩
variable {h6:List I}
theorem ac6 :∀(c:List Lit)(σ:Sub),(∀l∈c,∀a∈S,a.name=l.atom.name->a∈h6)->∀d∈exts S c σ,d∈exts h6 c σ
 |[],σ,_,d,h=>h|l::c,σ,h,d,b=>by
  rw[exts,aKF]at b ⊢;obtain⟨a,aG,b⟩:=b;simp only[jc,aKB,beq_iff_eq]at aG;refine⟨a,by simp only[jc,aKB,beq_iff_eq];exact⟨h l be a aG.1 aG.2,aG.2⟩,?_⟩;split at b
  ·rename_i hm;rw[if_pos hm];exact ac6 c _ (λl e=>h l (aKE _ e)) d b
  ·cases b
theorem aKp{σ:Sub}{p:I}(h:dM p.name=true):(eD σ p).name=p.name/\(eD σ p).args.length=p.args.length:=by
 have a:¬eJ p=true:=λa=>by
  have:=G7 (show eg p.name=true by simp_all[eJ]);rw[G8 h]at this;cases this
 rw[C7,if_neg a];split
 ·exact⟨rfl,rfl⟩
 ·exact⟨rfl,by simp[I.args]⟩
structure Hf(r:aU):Prop extends RV1 r where
 hd:r.head.name≠eG
 hz:∀l∈r.body,l.atom.name=eG->l.atom.args.length=2
theorem als:∀{l:List I}{h:Bool},kG l h=0->(∀a∈l.head?,kj a h=0)/\∀a∈l.drop 1,kj a false=0
 |[],_,_=>by simp|t::r,h,he=>by
  rw[kG]at he;split at he
  ·rename_i b;obtain⟨c,d⟩:=als he;refine⟨by simpa using b,λa aG=>?_⟩;cases r with
   |nil=>cases aG|cons u r =>
    rcases aKK.1 (by simpa using aG)with rfl|aG
    ·exact c _ rfl
    ·exact d a (by simpa using aG)
  omega
theorem aKq(h:fK r=0):Hf r:=by
 refine⟨aiF h,?_,?_⟩;all_goals
  unfold fK at h;split at h
  ·cases h
  split at h
  ·rename_i a;exact absurd h a
  rename_i a;obtain⟨d,e⟩:=als kO
 ·intro c;have b:=d r.head rfl;have hk:ln r.head.name=some ⟨eG,2,false,true⟩:=by rw[c];rfl
  unfold kj at b;rw[hk]at b;grind
 ·intro l f c;have b:=e l.atom (aKC.2 ⟨l,f,rfl⟩);have hk:ln l.atom.name=some ⟨eG,2,false,true⟩:=by rw[c];rfl
  unfold kj at b;rw[hk]at b;by_cases a:l.atom.args.length=2
  ·exact a
  ·grind
theorem alu(h:hG l=0):∀r∈l,Hf r:=by
 unfold hG at h;split at h
 ·cases h
 ·intro r a;refine aKq ?_;cases b:l.find? λr=>!(fK r==0)with
  |none=>grind|some s=>grind
variable {x:I}
theorem wS(a:RV1 r)(h:x∈nc S r):x.name=r.head.name:=by
 rw[nc,Ts]at h;obtain⟨b,_,rfl⟩:=aKC.1 h;exact(aKp (a.a r.head (by simp[dx])).2).1
theorem OX(ds:gX S)(p:gX h6)(e:Hf r)(q:∀l∈r.body,dB l=true->∀a∈S,a.name=l.atom.name->a∈h6)
  (w:∀l∈r.body,l.neg=true->l.atom.name≠eG->∀a,a.name=l.atom.name->(a∈S↔a∈h6))(ah:x∈nc S r):x∈nc h6 r:=by
 rw[nc,Ts]at ah ⊢;obtain⟨d,c,rfl⟩:=aKC.1 ah;rw[aKB]at c;refine aKC.2 ⟨d,aKB.2 ⟨ac6 _ _ (λl b=>q l (aKB.1 b).1 (aKB.1 b).2) d c.1,?_⟩,rfl⟩;have y:=(Tw ds _ [] (λ_ h=>d6) d c.1).1;rw[aKN]at c ⊢;intro l b;have z:=c.2 l b;rw[aKB]at b;have f:l.atom∈dx r:=by simp only[dx,aKK,aKC];exact .inr ⟨l,b.1,rfl⟩
 obtain⟨i,B⟩:=aKp (σ:=d) (e.a l.atom f).2;rw[<-z];unfold o9;rw[i,B];by_cases hd:l.atom.name=eG
 ·rw[e.hz l b.1 hd,hd];rfl
 ·have j:(l.atom.name==eG)=false:=by simpa using hd
  have C:l.neg=true:=by
   have:=b.2;simpa[dB,j]using this
  rw[j];simp only[Bool.false_and,aKO,if_false];congr 2
  have o:=Di (v:=true) (n:=4) y (e.a l.atom f).1 (λh=>d6);rw[Bool.eq_iff_iff,KY p o,KY ds o];exact(w l b.1 C hd _ i).symm
theorem OY{n:Int}:∀{es:List bR}{lev a:List (ak×Int)}{ch:Bool},p0 n es lev ch=some (a,false)->ch=false/\a=lev/\∀e∈es,AY lev e<=mw lev e.src
 |[],lev,a,ch,h=>by
  simp only[p0,Option.some.injEq,Prod.mk.injEq]at h;simp_all
 |e::r,lev,a,ch,h=>by
  rw[p0]at h;split at h
  ·split at h
   ·cases h
   ·cases (OY h).1
  ·rename_i f;obtain⟨b,c,d⟩:=OY h;exact⟨b,c,λx ah=>by
    rcases aKK.1 ah with rfl|ah
    ·omega
    ·exact d x ah⟩
variable {n:Nat}
theorem ac7{es:List bR}:∀{f:Nat}{lev a:List (ak×Int)},xp n lev->ud n es f lev=some (some a)->xp n a/\∀e∈es,AY a e<=mw a e.src
 |0,_,_,_,h=>by cases h|f+1,lev,a,b,h=>by
  rw[ud]at h;split at h
  ·cases h
  ·rename_i ar;exact ac7 (SF (ns:=es.map bR.src) (λe he=>aKC.2 ⟨e,he,rfl⟩) b ar).1 h
  ·rename_i ar;simp only[Option.some.injEq]at h;subst h;obtain⟨_,rfl,q⟩:=OY ar;exact⟨b,q⟩
theorem ada{α:Type}{f:ak->α}{s:ak}:∀{ks:List ak},s∈ks->getM (ks.map λs=>(s,f s)) s=some (f s)
 |k::r,h=>by
  rw[aKH,getM];by_cases e:s=k
  ·rw[if_pos e,e]
  simp_all[ada]
structure aPl(l:List aU)(lv:ak->Int)(n:Nat):Prop where
 o:oC l=((aKP n).map λk:Nat=>(aKP l.length).filter λi=>lv l[i]!.head.name==(k:Int),0)
 h:∀r∈l,r.head.name≠eG->0<=lv r.head.name/\lv r.head.name<n
 b:∀r∈l,r.head.name≠eG->∀x∈r.body,x.atom.name≠eG->lv x.atom.name+(if x.neg then 1 else 0)<=lv r.head.name
theorem Jq(h:(oC l).2=0):∃lv n,aPl l lv n:=by
 have C:=h;unfold oC at h;split at h
 ·cases h
 ·rename_i d e;have j:=e;unfold AZ at e;rw[aKJ]at e;obtain⟨a,b,rfl⟩:=e;cases f:ud (il l).length (mv l) ((il l).length*(il l).length+2) []with
  |none=>rw[f]at b;cases b|some o =>
   rw[f]at b;simp only[Option.getD_some]at b;subst b;obtain⟨p,q⟩:=ac7 (ajY _) f;have i:∀s∈il l,p1 ((il l).map λs=>(s,mw a s)) s=mw a s:=λs ax=>by rw[p1,ada ax];rfl
   have v:∀r∈l,r.head.name≠eG->r.head.name∈il l:=λr c hd=>by
    rw[ajZ];simp only[uc,aKB,aKF,aKK];exact⟨⟨r,c,.inl rfl⟩,by simpa using hd⟩
   refine⟨p1 ((il l).map λs=>(s,mw a s)),(xh ((il l).map λs=>(s,mw a s))+1).toNat,?_,λr c hd=>?_,λr c hd x ah w=>?_⟩
   ·unfold oC;rw[j]
   ·have D:=aIX ((il l).map λs=>(s,mw a s)) r.head.name;have y:=(p r.head.name).1;rw[<-i _ (v r c hd)]at y;omega
   ·have he:(⟨r.head.name,x.atom.name,x.neg⟩:bR)∈mv l:=by
     rw[aIL];simp only[lp,aKF,aKB,aKC];exact⟨r,⟨c,by simpa using hd⟩,x,⟨ah,by simpa using w⟩,rfl⟩
    obtain⟨z,B⟩:=aIM he;rw[i _ z,i _ B];exact q _ he
inductive Fd(l:List aU)(g A:List I)(D:ak->Prop):I->Prop
 |g {a:I}:a∈g->Fd l g A D a|r {r:aU} {x:I} (S:List I):r∈l->gX S->(∀a∈S,a∈A)->(∀a∈S,D a.name->Fd l g A D a)->(∀y∈r.body,y.neg=true->y.atom.name≠eG->∀a∈A,a.name=y.atom.name->a∈S)->x∈nc S r->Fd l g A D x
theorem adb(c:∀r∈l,RV1 r):∀{f:Nat}{A A':List I},gX A->xe f l A=some (0,A')->gX A'/\(∀a∈A,a∈A')/\(∀a∈eB l A',a∈A') /\
  ∀F:I->Prop,(∀a∈A,F a)->(∀C,gX C->(∀a∈A,a∈C)->(∀a∈C,a∈A')->(∀a∈C,F a)->∀x∈eB l C,F x)->∀x∈A',F x
 |0,_,_,_,h=>by cases h|f+1,A,A',cE,h=>by
  rw[xe]at h;split at h
  ·cases h
  ·rename_i hd;have i:jR (eB l A)=false:=by simpa using hd
   split at h
   ·rename_i q;simp only[Option.some.injEq,Prod.mk.injEq,true_and]at h;subst h;refine⟨cE,λ_ h=>h,λa aG=>?_,λF b _=>b⟩;have d:=Dm c cE i aG;cases j:kI A a with
    |true=>exact(KY cE d).1 j|false =>
     have:=ub.2 ⟨aG,j⟩;rw[q]at this;cases this
   ·split at h
    ·cases h
    ·split at h
     ·cases h
     ·have hm:∀a,a∈fx (A++kZ l A)↔a∈A\/a∈kZ l A:=λa=>by rw[rI,aKG]
      have d:gX (fx (A++kZ l A)):=λa aG=>by
       rcases(hm a).1 aG with aG|aG
       ·exact cE a aG
       ·exact Dm c cE i (ub.1 aG).1
      obtain⟨v,o,w,y⟩:=adb c d h;have e:∀a∈A,a∈fx (A++kZ l A):=λa aG=>(hm a).2 (.inl aG);refine⟨v,λa aG=>o a (e a aG),w,λF b p=>y F (λa aG=>?_) λC z B=>p C z λa aG=>B a (e a aG)⟩;rcases(hm a).1 aG with aG|aG
      ·exact b a aG
      ·exact p A cE (λ_ h=>h) (λa aG=>o a (e a aG)) b a (ub.1 aG).1
structure aPm(l:List aU)(lv:ak->Int)(g:List I)(k:Nat)(A:List I):Prop where
 v:gX A
 i:∀a∈g,a∈A
 s:∀x∈A,(x∈g\/lv x.name<k)/\Fd l g A (λ_=>True) x
 c:∀r∈l,lv r.head.name<k->∀x∈nc A r,x∈A
theorem OZ{lv:ak->Int}(p:∀r∈l,Hf r)(L:aPl l lv n) :∀(m k:Nat){A A':List I},aPm l lv g k A ->
  GJ l ((List.range' k m).map λk:Nat=>(aKP l.length).filter λi=>lv l[i]!.head.name==(k:Int)) A=some (A',0)->aPm l lv g (k+m) A'
 |0,k,A,A',h,he=>by
  simp only[List.range'_zero,aKR,GJ,Option.some.injEq,Prod.mk.injEq,and_true]at he;subst he;exact h
 |m+1,k,A,A',h,he=>by
  rw[List.range'_succ,aKH,GJ]at he;obtain⟨R,de⟩:∃R,R=((aKP l.length).filter λi=>lv l[i]!.head.name==(k:Int)).map (l[·]!):=⟨_,rfl⟩;rw[<-de]at he;have D:∀r,r∈R↔r∈l/\lv r.head.name=k:=λr=>by
   rw[de];simp only[aKC,aKB,List.mem_range,beq_iff_eq];constructor
   ·rintro⟨i,⟨b,f⟩,rfl⟩;exact⟨ek b,f⟩
   ·rintro⟨b,f⟩;obtain⟨i,al,e⟩:=List.mem_iff_getElem.1 b;have O:l[i]! = r:=by rw[getElem!_pos l i al,e]
    exact⟨i,⟨al,by rw[O];exact f⟩,O⟩
  split at he
  ·cases he
  ·rename_i e B ax;split at he
   ·rename_i F;subst F;have v:∀r∈R,RV1 r:=λr Z=>(p r ((D r).1 Z).1).toRV1;obtain⟨P,w,v3,v4⟩:=adb v h.v ax;have z:∀C,∀x∈eB R C,∃r,r∈l/\lv r.head.name=k/\x.name=r.head.name/\x∈nc C r:=λC x ah=>by
     obtain⟨r,G,Q⟩:=aKF.1 ah;exact⟨r,((D r).1 G).1,((D r).1 G).2,wS (v r G) Q,Q⟩
    -- what is new has the level k
    have T:∀x∈B,lv x.name<k->x∈A:=λx ah hk=>v4 (λx=>lv x.name<k->x∈A) (λa aG _=>aG) (λC _ _ _ _ x ah hk=>by
     obtain⟨r,_,f,o,_⟩:=z C x ah;rw[o,f]at hk;omega) x ah hk
    have V:∀r∈l,∀x∈r.body,x.atom.name≠eG->lv x.atom.name+(if x.neg then 1 else 0)<=lv r.head.name:=λr c x ah H=>L.b r c (p r c).hd x ah H;have J:∀r∈l,lv r.head.name<=k->∀C:List I,(∀a∈A,a∈C)->(∀a∈C,a∈B)->∀x∈r.body,x.neg=true->x.atom.name≠eG->∀a,a.name=x.atom.name->(a∈C↔a∈B):=λr c W C K E x ah d H a aG=>by
     have b:=V r c x ah H;rw[d,<-aG]at b;simp only[if_true]at b;exact⟨E a,λae=>K a (T a ae am)⟩
    have Jr:∀r∈l,lv r.head.name<k->∀x∈nc B r,x∈nc A r:=λr c W x=>by
     refine OX P h.v (p r c) (λy j ae a aG d=>?_) (λy j d hd a aG=>(J r c am A (λ_ h=>h) w y j d hd a aG).symm);refine T a aG ?_;have DM:y.atom.name≠eG:=by simp only[dB,aKL,Bool.not_eq_true',beq_eq_false_iff_ne]at ae;exact ae.2
     have:=V r c y j DM;rw[d];split at this<;>omega
    have mH:∀x,Fd l g A (λ_=>True) x->x∈A->Fd l g B (λ_=>True) x:=λx ah=>by
     induction ah with
     |g h=>exact λ_=>.g h|@r r x S b f o _ bY X ih =>
      intro O1;rcases(h.s x O1).1 with q|q
      ·exact .g q
      ·rw[wS (p r b).toRV1 X]at q;exact .r S b f (λa aG=>w a (o a aG)) (λa aG _=>ih a aG trivial (o a aG)) (λy j d hd a aG e=>bY y j d hd a ((J r b am A (λ_ h=>h) w y j d hd a e).2 aG) e) X
    refine(show k+1+m=k+(m+1) by omega)▸OZ p L m (k+1) (A:=B) ⟨P,λa aG=>w a (h.i a aG),λx ah=>?_,λr c W x ah=>?_⟩ he
    ·refine v4 (λx=>(x∈g\/lv x.name<(k+1:Nat))/\Fd l g B (λ_=>True) x) (λa aG=>⟨(h.s a aG).1.imp_right am,mH a (h.s a aG).2 aG⟩) (λC c1 K E hB x ah=>?_) x ah;obtain⟨r,b,f,o,a6⟩:=z C x ah;refine⟨.inr (by rw[o];omega),.r C b c1 E (λa aG _=>(hB a aG).2) (λy j d hd a aG e=>(J r b am C K E y j d hd a e).2 aG) a6⟩
    ·by_cases hk:lv r.head.name=k
     ·exact v3 x (aKF.2 ⟨r,(D r).2 ⟨c,hk⟩,ah⟩)
     ·have Y:lv r.head.name<k:=by omega
      exact w x (h.c r c Y x (Jr r c Y x ah))
   ·rename_i F;simp only[Option.some.injEq,Prod.mk.injEq]at he;exact absurd he.2 F
theorem adh(b:hG l=0)(c:(oC l).2=0)(d:rO g=true):∃lv n,aPl l lv n/\aPm l lv g 0 (fx g)/\iz l g=GJ l ((List.range' 0 n).map λk:Nat=>(aKP l.length).filter λi=>lv l[i]!.head.name==(k:Int)) (fx g):=by
 obtain⟨lv,n,L⟩:=Jq c;refine⟨lv,n,L,⟨λa aG=>(aHa d).2 a ((rI _ _).1 aG),λa aG=>(rI _ _).2 aG,λx ah=>⟨.inl ((rI _ _).1 ah),.g ((rI _ _).1 ah)⟩,λr e hk=>by
  have:=(L.h r e (alu b r e).hd).1;omega⟩,?_⟩
 unfold iz;rw[if_neg (by simpa using b),if_neg iF,d,if_neg be,L.o];simp only[List.range_eq_range' (n:=n)]
theorem O2(h:iz l g=some (A,0)):hG l=0/\(oC l).2=0/\rO g=true:=by
 unfold iz at h;split at h
 ·simp_all
 ·split at h
  ·simp_all
  ·split at h
   ·cases h
   ·simp_all
theorem adi(h:iz l g=some (A,0)):gX A/\(∀a∈g,a∈A)/\(∀x∈A,Fd l g A (λ_=>True) x)/\∀x∈eB l A,x∈A:=by
 obtain⟨c,f,i⟩:=O2 h;obtain⟨lv,n,L,gq,e⟩:=adh c f i;have d:=alu c;have iH:=OZ d L n 0 gq (e▸h);rw[Nat.zero_add]at iH;refine⟨iH.v,iH.i,λx ah=>(iH.s x ah).2,λx ah=>?_⟩;obtain⟨r,b,j⟩:=aKF.1 ah;exact iH.c r b (L.h r b (d r b).hd).2 x j
theorem adj(h:iz l g=some (A,0)):gX A/\hG l=0/\(∀a∈g,a∈A)/\∀x,x∈A↔x∈g\/x∈eB l A:=by
 obtain⟨b,-⟩:=O2 h;obtain⟨c,d,i,j⟩:=adi h;refine⟨c,b,d,λx=>⟨λah=>?_,λah=>ah.elim (d x) (j x)⟩⟩;cases i x ah with
 |g h=>exact .inl h|r S h1 o f _ p q=>exact .inr (aKF.2 ⟨_,h1,OX o c (alu b _ h1) (λy _ _ a aG _=>f a aG) (λy v w hd a e=>⟨f a,λaG=>p y v w hd a aG e⟩) q⟩)
theorem adk:∀{f:Nat}{l:List aU}{A A':List I},A.length<=512->xe f l A=some (0,A')->A'.length<=512
 |0,_,_,_,_,h=>by cases h|f+1,l,A,A',cE,h=>by
  rw[xe]at h;split at h
  ·cases h
  ·split at h
   ·simp only[Option.some.injEq,Prod.mk.injEq,true_and]at h;rw[<-h];exact cE
   ·split at h
    ·cases h
    ·split at h
     ·cases h
     ·exact adk am h
theorem adl :∀{rows:List (List Nat)}{A A':List I},A.length<=512->GJ l rows A=some (A',0)->A'.length<=512
 |[],A,A',cE,h=>by
  simp only[GJ,Option.some.injEq,Prod.mk.injEq,and_true]at h;rw[<-h];exact cE
 |row::rows,A,A',cE,h=>by
  rw[GJ]at h;split at h
  ·cases h
  ·rename_i e B ax;split at h
   ·rename_i a;subst a;exact adl (adk cE ax) h
   ·rename_i a;simp only[Option.some.injEq,Prod.mk.injEq]at h;exact absurd h.2 a
theorem DN(h:iz l g=some (A,0)):A.length<=512/\∀a∈A,dM a.name=true:=by
 obtain⟨_,d,_,e⟩:=adj h;have b:=(O2 h).2.2;constructor
 ·unfold iz at h;split at h
  ·omega
  ·split at h
   ·simp only[Option.some.injEq,Prod.mk.injEq]at h;omega
   ·split at h
    ·cases h
    ·exact adl (Nat.le_trans (Kf g) (aHa b).1) h
 ·intro a aG;rcases(e a).1 aG with q|q
  ·simp only[rO,aKL]at b;have:=aKN.1 b.2 a q;simp only[A0,aKL,Bool.or_eq_true,beq_iff_eq]at this;rcases this.1 with q|q
   ·rw[q.1];rfl
   ·rw[q.1];rfl
  ·obtain⟨r,f,ah⟩:=aKF.1 q;have c:=(alu d r f).toRV1;rw[wS c ah];exact(c.a r.head (by simp[dx])).2
def b2(E:List bR)(x:ak):List ak:=(E.filter λe=>e.src==x).map (·.dst)
def kM(E:List bR)(met:List ak):Nat:=(E.filter λe=>!met.contains e.src).length
def mA(E:List bR):Nat->List ak->List ak->List ak
 |0,_,met=>met|f+1,todo,met=>match todo.getLast? with
  |none=>met|some x=>if met.contains x then mA E f todo.dropLast met else mA E f (todo.dropLast++b2 E x) (met++[x])
def rV(E:List bR)(s:ak):List ak:=mA E ((b2 E s).length+kM E []) (b2 E s) []
def qB(l:List ak):List ak:=l.foldl (λacc s=>xf s acc) []
def cM(E:List bR)(s:ak):List ak:=qB (rV E s)
theorem adF{l ks:List ak}(b:ks.Nodup)(hm:∀x,x∈ks↔x∈l):(Sort.sort ng ks.toArray).toList=qB l:=by
 obtain⟨c,d⟩:=ajt GQ Sq b;have e:qB l=l.foldl (λa x=>nO ng x a) []:=by
  simp[qB,Ss]
 obtain⟨f,h⟩:=GS GQ Sq l [] List.Pairwise.nil;rw[e];exact Sn GQ c f λx=>by rw[d,h,hm];simp
variable {E:List bR}{met:List ak}
theorem Pg{x:ak}(h:met.contains x=false):kM E (met++[x])+(b2 E x).length=kM E met:=by
 unfold kM b2;rw[List.length_map];induction E with
 |nil=>rfl|cons e E ih =>
  simp only[List.filter_cons];by_cases ah:e.src=x
  ·subst ah;have a:(met++[e.src]).contains e.src=true:=by simp
   simp only[a,h,beq_self_eq_true,Bool.not_true,aKV,aKO,if_false,if_true,aKD];omega
  ·have a:(met++[x]).contains e.src=met.contains e.src:=by
    rw[Bool.eq_iff_iff];simp[ah]
   have b:(e.src==x)=false:=by simpa using ah
   simp only[a,b,aKO,if_false];split
   ·simp only[aKD];omega
   ·omega
theorem awW{a:List ak}{x:ak}(h:a.getLast?=some x):mA E (a.length+kM E met) a met =
  if met.contains x then mA E (a.dropLast.length+kM E met) a.dropLast met else mA E ((a.dropLast++b2 E x).length+kM E (met++[x])) (a.dropLast++b2 E x) (met++[x]):=by
 have ar:0<a.length:=by
  cases a with
  |nil=>cases h|cons=>simp
 obtain⟨n,b⟩:∃n,a.length=n+1:=⟨a.length-1,am⟩;have hd:a.dropLast.length=n:=by rw[List.length_dropLast];omega
 rw[b,show n+1+kM E met=(n+kM E met)+1 by omega,mA,h];simp only;cases c:met.contains x with
 |true=>rw[if_pos rfl,if_pos rfl,hd]|false =>
  have:=Pg (E:=E) c;rw[if_neg be,if_neg be,aKI,hd,show n+(b2 E x).length+kM E (met++[x])=n+kM E met by omega]
theorem adH(n:Nat):mA E n [] met=met:=by cases n<;>rfl
def tN(E:List bR)(dv:List (ak×List ak)):Prop:=∀x,getM dv x=if b2 E x=[]then none else some (b2 E x)
theorem awY(E:List bR)(e:bR)(x:ak):b2 (E++[e]) x=b2 E x++if e.src==x then[e.dst]else[]:=by
 unfold b2;rw[List.filter_append,List.map_append];cases h:e.src==x<;>simp[h]
theorem tN.snoc{a:List (ak×List ak)}(h:tN E a)(e:bR):tN (E++[e]) (fV a e.src (b2 E e.src++[e.dst])):=λx=>by
 rw[w5,awY];by_cases ah:x=e.src
 ·subst ah;simp
 ·have b:(e.src==x)=false:=by simpa using λh=>ah h.symm
  rw[if_neg ah,h x,b];simp
def h0(e:Nat)(l:List ak):AV:=.list (some e) 1 (l.map AV.str)
theorem awZ(e:Nat)(l:List ak):(h0 e l).a1=.list none 1 (l.map AV.str):=_root_.id rfl
section
variable {s:au}{K:au->Prop}{t:aN K}
variable {d e:Nat}{zero:AV}{id:Nat}{q:ak}{l:List (ak×List ak)}{L:List ak}
theorem aw1(h:getM l q=some L) :
  AF [1] s d zero (.str q) id K t (some (.map n (cI (h0 e) l)))=di { s with heap:=s.heap.set id (.map n (jv (cI (h0 e) l) (.str q) (.list none 1 (L.map AV.str)))) } d (.list (some e) 1 (L.map AV.str)) K ⟨⟩:=by
 simp only[AF,C4,fE,beq_self_eq_true,Bool.and_self,if_true,C3,h,Option.map_some,h0]
theorem aw2(h:getM l q=none) :
  AF [1] s d zero (.str q) id K t (some (.map n (cI (h0 e) l)))=di s d zero K ⟨⟩:=by
 simp only[AF,C4,fE,beq_self_eq_true,Bool.and_self,if_true,C3,h,Option.map_none]
variable {v:Nat}{xs:List AV}
theorem aw3{x:AV}(h:(getM l q).isSome=true)(ah:xs=L.map AV.str) :
  w7 [1] s v (.str q) id e 1 xs K t (some (.map n (jv (cI (h0 e) l) (.str q) x)))=di { s with heap:=s.heap.set id (.map n (cI (h0 e) (fV l q L))) } v (.list none 1 (L.map AV.str)) K ⟨⟩:=by
 subst ah;simp only[w7,aE1,fE,beq_self_eq_true,Bool.and_self,if_true,pr,ahH (h0 e) q x l h,ahI];have:=Ko (h0 e) l q L;simp only[h0]at this;rw[show(AV.list (some e) 1 (L.map AV.str))=h0 e L from rfl,Ko];rw[fV];cases a:getM l q with
 |none=>rw[a]at h;cases h|some u=>rfl
theorem aw4(h:getM l q=none)(ah:xs=L.map AV.str) :
  w7 [1] s v (.str q) id e 1 xs K t (some (.map n (cI (h0 e) l)))=di { s with heap:=s.heap.set id (.map (n+1) (cI (h0 e) (fV l q L))) } v (.list none 1 (L.map AV.str)) K ⟨⟩:=by
 subst ah;simp only[w7,C4,fE,beq_self_eq_true,Bool.and_self,if_true];rw[show(AV.list (some e) 1 (L.map AV.str))=h0 e L from rfl,aht,lo,h]
end
theorem Ju{e0:Env}{H:List ay}{K:au->Prop}{t:aN K}{d e id:Nat}{cs:List AV}{ks vs:List ak}(h:H[id]?=some (.buf e cs)/\n<=cs.length/\cs.take n=ks.map AV.str/\n+vs.length<=M) :
  o7 ⟨e0,H⟩ d e 1 K t (.bI id 0 n 1) (some (1,vs.map AV.str))=di ⟨e0,H.set id .dead++[ay.buf e ((ks++vs).map AV.str),.dead]⟩ d (.bI H.length 0 (n+vs.length) 1) K ⟨⟩:=by
 obtain⟨b,j,c,a⟩:=h;have f:(ks.map AV.str).map AV.a1=ks.map AV.str:=by rw[List.map_map];rfl
 have i:((vs.map AV.str).map λv:AV=>v.cells.map AV.a1).flatten=vs.map AV.str:=by
  induction vs with
  |nil=>rfl|cons v vs ih=>simp only[aKH,List.flatten_cons];rw[ih (by simp only[aKD]at a;omega)];rfl
 simp only[o7,b];rw[if_pos ⟨trivial,trivial,trivial,am,kO⟩,Nat.mul_one,c,f,i,List.map_append,List.length_map]
attribute [go_sem 5000] awZ
open Enc (enc)
section
variable {α:Type}[Enc α]
def dg:Bool->List α->AV
 |true,[]=>.aS (Enc.sz α)|_,l=>.list none (Enc.sz α) (l.map enc)
theorem hr(l:List α):dg false l=.list none (Enc.sz α) (l.map enc):=by cases l<;>rfl
theorem Wj{P:AV->Prop}(c:P (.aS (Enc.sz α)))(a:∀xs,P (.list none (Enc.sz α) xs))(b:Bool)(s:List α):P (dg b s):=by
 cases b
 ·rw[hr];exact a _
 ·cases s
  ·exact c
  ·exact a _
theorem Wk(b:Bool)(s:List α):(dg b s=.aS (Enc.sz α)/\s=[])\/dg b s=.list none (Enc.sz α) (s.map enc):=by
 cases b
 ·exact .inr (hr s)
 ·cases s
  ·exact .inl ⟨rfl,rfl⟩
  ·exact .inr rfl
theorem Wl(b:Bool)(s:List α):(dg b s).a1=dg b s:=Wj (P:=λx=>x.a1=x) rfl (λ_=>rfl) b s
instance aT.dg(b:Bool)(s:List α):aT (dg b s) s:=by
 cases b
 ·rw[hr];exact aT.enc s
 ·cases s
  ·exact aT.aS
  ·exact aT.enc (_::_)
end
variable {i:Nat}
theorem Wm{l:List ak}{s:ak}(h:i<l.length)(he:xf s l=l.take i++xf s (l.drop i)) :
  (Op.bytesLess l[i]! s=true->xf s l=l.take (i+1)++xf s (l.drop (i+1))) /\
  (Op.bytesLess l[i]! s=false->xf s l=if(l[i]! ==s)=true then l else l.take i++([s]++l.drop i)):=by
 have hd:=fi h;rw[hd]at he;have d:=CN l[i]! s;have f:=CN s l[i]!;have j:=CY l[i]! s;have o:du l[i]! s=0↔l[i]! = s:=mY;constructor
 ·intro a;have cG:s≠l[i]!:=by grind
  have b:Op.bytesLess s l[i]! = false:=by grind
  rw[he,xf,if_neg cG,b,bL h];simp
 ·intro a;by_cases e:s=l[i]!
  ·rw[he,xf,if_pos e,if_pos (by rw[e];simp),<-hd,List.take_append_drop]
  ·have c:Op.bytesLess s l[i]! = true:=by grind
   rw[he,xf,if_neg e,if_pos c,if_neg (by simpa using Ne.symm e),hd];rfl
theorem Wn{l:List bR}{x:bR}(h:i<l.length)(he:xg x l=l.take i++xg x (l.drop i)) :
  (p3 l[i]! x=true->xg x l=l.take (i+1)++xg x (l.drop (i+1))) /\
  (p3 l[i]! x=false->xg x l=if l[i]! = x then l else l.take i++([x]++l.drop i)):=by
 have hd:=fi h;rw[hd]at he;have d:=Sf l[i]! x;have c:=ajl x;constructor
 ·intro a;have b:lP l[i]! x<0:=of_decide_eq_true a;rw[he,xg,if_neg am,if_neg am,bL h];simp
 ·intro a;have b:¬lP l[i]! x<0:=of_decide_eq_false a;by_cases e:l[i]! = x
  ·rw[he,xg,if_pos e,if_pos (by rw[e];exact c),<-hd,List.take_append_drop]
  ·have cG:lP x l[i]!≠0:=λh=>e (La h).symm;rw[he,xg,if_neg e,if_neg cG,if_pos am,hd];rfl
theorem Wo(a b:bR):p3 a b=if(!(a.src==b.src))=true then Op.bytesLess a.src b.src else if(!(a.dst==b.dst))=true then Op.bytesLess a.dst b.dst else !a.neg&&b.neg:=by
 have o:=CN a.src b.src;have p:=CN a.dst b.dst;have f:du a.src b.src=0↔a.src=b.src:=mY;have j:du a.dst b.dst=0↔a.dst=b.dst:=mY;show decide (lP a b<0)=_;unfold lP;by_cases c:a.src=b.src
 ·have e:(a.src==b.src)=true:=by simpa using c
  simp only[f.2 c,e,ne_eq,not_true_eq_false,if_false,Bool.not_true,aKO];by_cases d:a.dst=b.dst
  ·have en:(a.dst==b.dst)=true:=by simpa using d
   simp only[j.2 d,en,ne_eq,not_true_eq_false,if_false,Bool.not_true,aKO];cases a.neg<;>cases b.neg<;>rfl
  ·have en:(a.dst==b.dst)=false:=by simpa using d
   have q:¬du a.dst b.dst=0:=λh=>d (j.1 h);simp only[q,en,ne_eq,not_false_eq_true,if_true,aKV];rw[p];cases Op.bytesLess a.dst b.dst<;>cases Op.bytesLess b.dst a.dst<;>rfl
 ·have e:(a.src==b.src)=false:=by simpa using c
  have v:¬du a.src b.src=0:=λh=>c (f.1 h);simp only[v,e,ne_eq,not_false_eq_true,if_true,aKV];rw[o];cases Op.bytesLess a.src b.src<;>cases Op.bytesLess b.src a.src<;>rfl
def dt(xs:List bR):List bR:=xs.foldl (λa x=>xg x a) []
theorem Wp(xs:List bR)(x:bR):dt (xs++[x])=xg x (dt xs):=by simp[dt]
theorem FB(x:bR):∀l:List bR,(xg x l).length<=l.length+1
 |[]=>by simp[xg]|t::r=>by have:=FB x r;rw[xg];split<;>(try split)<;>simp only[aKD]<;>omega
theorem Wq(xs:List bR):(dt xs).length<=xs.length:=by
 have key:∀(m acc:List bR),(m.foldl (λacc x=>xg x acc) acc).length<=acc.length+m.length:=λm=>by
  induction m with
  |nil=>intro acc;simp|cons x r ih =>
   intro acc;have a:=ih (xg x acc);have b:=FB x acc;simp only[List.foldl_cons,aKD];omega
 simpa[dt]using key xs []
def b3(s:ak)(B:List Lit):List bR:=(B.filter λx=>!(x.atom.name==eG)).map λx=>⟨s,x.atom.name,x.neg⟩
theorem Wr(s:ak){B:List Lit}(h:k<B.length):b3 s (B.take (k+1))=if(B[k]!.atom.name==eG)=true then b3 s (B.take k)else b3 s (B.take k)++[⟨s,B[k]!.atom.name,B[k]!.neg⟩]:=by
 unfold b3;rw[bL h,List.filter_append];split<;>simp_all
theorem Ws(h:i<l.length):lp (l.take (i+1))=lp (l.take i)++if(l[i]!.head.name==eG)=true then[]else b3 l[i]!.head.name l[i]!.body:=by
 unfold lp b3;rw[bL h,List.filter_append,List.flatMap_append];split<;>simp_all
theorem Jf(s:ak)(B:List Lit):(b3 s B).length<=B.length:=by
 simp[b3,List.length_filter_le]
def bC(n:Int):List bR->List (ak×Int)->Bool->Option (List (ak×Int)×Bool)
 |[],lev,ch=>some (lev,ch)|e::r,lev,ch=>if AY lev e>n then none else if mw lev e.src<AY lev e then bC n r (fV lev e.src (AY lev e)) true else bC n r lev ch
def bX(n:Int)(es:List bR):Nat->List (ak×Int)->Option (Option (List (ak×Int)))
 |0,_=>none|f+1,lev=>match bC n es lev false with
  |none=>some none|some (kL,true)=>bX n es f kL|some (kL,false)=>some (some kL)
def eE(es:List bR)(L:ak->Int):Prop:=∀e∈es,L e.dst+(if e.neg then 1 else 0)<=L e.src
variable {es:List bR}{ns:List ak}{L:ak->Int}
theorem Wt(ax:∀e∈es,e.src∈ns/\e.dst∈ns)(h:eE es L) :
  ∃f:ak->Int,eE es f/\(∀s,0<=f s)/\∀s∈ns,f s<ns.length:=by
 have mono:∀{x y:Int},x<=y->(ns.filter λt=>decide (L t<x)).length<=(ns.filter λt=>decide (L t<y)).length:=λv=>by
  rw[<-aKW,<-aKW];exact aKY λt _ d=>by simp only[decide_eq_true_eq]at d ⊢;omega
 have c:∀{x y:Int}{s:ak},s∈ns->x<=L s->L s<y->(ns.filter λt=>decide (L t<x)).length<(ns.filter λt=>decide (L t<y)).length:=λ{x y s}hm ah p=>by
  obtain⟨a,b,rfl⟩:=List.append_of_mem hm;rw[<-aKW,<-aKW];simp only[List.countP_append,List.countP_cons];have j:a.countP (λt=>decide (L t<x))<=a.countP (λt=>decide (L t<y)):=aKY λt _ d=>by simp only[decide_eq_true_eq]at d ⊢;omega
  have q:b.countP (λt=>decide (L t<x))<=b.countP (λt=>decide (L t<y)):=aKY λt _ d=>by simp only[decide_eq_true_eq]at d ⊢;omega
  rw[if_neg nf,if_pos (by simpa using p)];omega
 refine⟨λs=>((ns.filter λt=>decide (L t<L s)).length:Nat),λe he=>?_,λs=>Int.natCast_nonneg _,λs hm=>?_⟩
 ·have j:=h e he;cases o:e.neg with
  |true =>
   rw[o,if_pos rfl]at j;have:=c (x:=L e.dst) (y:=L e.src) (ax e he).2 (Int.le_refl _) am;simp only[if_true];omega
  |false =>
   rw[o,if_neg be]at j;have:=mono (x:=L e.dst) (y:=L e.src) am;simp only[aKO,if_false];omega
 ·have:=c (x:=L s) (y:=L s+1) hm (Int.le_refl _) am;have q:=List.length_filter_le (λt=>decide (L t<L s+1)) ns;show((ns.filter λt=>decide (L t<L s)).length:Int)<_;omega
theorem mX{n:Int}(cf:∀s∈ns,L s<n):∀{es:List bR}{lev:List (ak×Int)}{ch:Bool},(∀e∈es,e.src∈ns)->eE es L->(∀s,mw lev s<=L s) ->
  p0 n es lev ch=bC n es lev ch/\∃r,p0 n es lev ch=some r/\∀s,mw r.1 s<=L s
 |[],lev,ch,_,_,h=>⟨rfl,_,rfl,h⟩|e::r,lev,ch,ax,ds,h=>by
  have f:=ds e be;have j:=h e.dst;have o:=cf _ (ax e be);have c:AY lev e<=L e.src:=by unfold AY;omega
  have a:∀e∈r,e.src∈ns:=λe he=>ax e (aKE _ he);have b:eE r L:=λe he=>ds e (aKE _ he);rw[p0,bC,if_neg (by omega:¬AY lev e>n)];split
  ·rw[if_neg am];refine mX cf a b λs=>?_;rw[ajT];split
   ·rename_i d;rw[d];exact c
   ·exact h s
  ·exact mX cf a b h
theorem Jh{n:Int}(cf:∀s∈ns,L s<n)(ax:∀e∈es,e.src∈ns)(ds:eE es L):∀(f:Nat){lev:List (ak×Int)},(∀s,mw lev s<=L s) ->
  ud n es f lev=bX n es f lev/\ud n es f lev≠some none
 |0,lev,h=>⟨rfl,by simp[ud]⟩|f+1,lev,h=>by
  obtain⟨a,⟨j,b⟩,c,d⟩:=mX cf (ch:=false) ax ds h;rw[ud,bX,<-a,c];cases b with
  |true=>exact Jh cf ax ds f d|false=>simp
open Enc (enc)
section
variable {P:Program}{gl:cQ}{D:bj}
def wJ(P:Program)(x y:AV):Prop:=∀g w v o,bn g x v->fC P g w o x v->bn g y v/\fC P g w o y v
theorem wJ.refl(x:AV):wJ P x x:=λ_ _ _ _ a b=>⟨a,b⟩
theorem wJ.aS{e sz:Nat}(h:ko P e sz=true):wJ P (.aS sz) (.list (some e) sz []):=λg w v o a _=>by
 obtain⟨i,z,c,d,f,j,p,q⟩:=ra h;have y:=a.uz;subst y;refine⟨.own _ _ _ _ (.kn sz none 0 λ_=>rfl),λB C xs ah=>?_⟩;simp only[AV.list.injEq,Option.some.injEq]at ah;obtain⟨rfl,rfl,rfl⟩:=ah;exact⟨i,z,[],c,d,f,j,p,q,Nat.zero_le _,World.ownsRow_nil w 0 _ _,λb ae=>by simp[Value.ownBlock]at ae⟩
theorem aA.axf{f:Nat}{hh:az}{iw:List bo}{xs:List AV}{r:AV}(B:bs P f xs.length hh iw=true)(ah:xs.all AV.arg=true)(C:r.res=true)
  (he:exec P gl D hh ⟨mR 0 xs,[]⟩ (yg λs=>∃d,tv s.env iw=some d/\wJ P d r)):aA P gl f xs r:=by
 have F:bB P gl f xs [] λd _=>wJ P d r:=bB.intro B (pL hh he λe s h=>by
  cases e with
  |exit i=>exact h|normal=>exact h|ret=>exact h)
 intro γ w vs G H J;let g:bD:=⟨γ,λb=>if b<w.heap.size then .outer else .none,λ_=>none⟩
 have c:Rel P gl 0 g (l9 []) tu w :=
  ⟨.nil,rfl,rfl,λt e he=>kE,λid bM K=>by simp[l9]at K,G,λb ae=>by
   by_cases h:b<w.heap.size
   ·exact h
   ·simp[g,h]at ae,H,λid b h=>d6⟩
 have O:∀x∈xs,cY x:=λx Q=>E0 (aKN.1 ah x Q);refine(F.2 g w vs c (J.zX ah g rfl) (λi x v h _=>(O x (List.mem_of_getElem? h)).gG)).mono ?_;rintro e w' ⟨v,r',H',g',rfl,R,a,T,V,W⟩;have p:∀b,b<w.heap.size->g'.bO b=.outer/\w'.heap[b]?=w.heap[b]?/\∀o,g'.γ b o=γ b o:=λb ae=>a.outer b (by simp[g,ae]);obtain⟨X,Y⟩:=R _ _ _ _ V W;refine⟨v,g'.γ,rfl,a.γ,a.size,λb ae=>(p b ae).2,⟨a.os,a.out⟩,T.fI,X.EZ C _ rfl,?_⟩;intro e sz Z ah;obtain⟨j,z,us,m1,m2,m3,m4,m5,m6,m7,m8,y⟩:=Y e sz Z ah;refine⟨j,z,us,m1,m2,m3,m4,m5,m6,m7,m8,λb ae=>⟨?_,(y b ae).2⟩⟩;have q:=(y b ae).1;have:¬b<w.heap.size:=λh=>by rw[(p b h).1]at q;cases q
 simp[we,this]
end
structure bp where
 rules:List aU
 given:List I
 st:ak->Option (List I)
 work:Nat
def iC(l:List I):AV:=.list none 2 (l.map I.enc)
theorem axg(l:List I):(iC l).a1=.list none 2 (l.map I.enc):=_root_.id rfl
theorem axh{q:ak}{v:List I}{id:Nat}{H:List ay}{l:List (ak×List I)}:va [1] (.str q) (.list none 2 (v.map I.enc)) id H (some (.map n (cI iC l)))=some (H.set id (.map (lo n l q) (cI iC (fV l q v)))):=Q0 rfl
def eT(l:List aU)(ax:List ak)(s:ak):List ak:=ax.filter λn=>(cM (mv l) s++[s]).contains n
def jJ(l:List aU)(ns:List ak):List aU:=l.filter λr=>ns.contains r.head.name
def dh(st:ak->Option (List I))(ns:List ak):Nat:=(ns.filter λn=>(st n).isNone).length
def jU(st:ak->Option (List I))(g:List I)(ns:List ak):Nat:=ns.foldl (λk n=>k+((st n).getD []).length) g.length
def jl(A:List I)(st:ak->Option (List I))(ns:List ak):ak->Option (List I):=λs=>if ns.contains s then some (A.filter λa=>a.name==s)else st s
def oq(l:List aU)(st:ak->Option (List I))(rel:ak):ak->Option (List I):=λs=>if(cM (mv l) s).contains rel then none else st s
theorem adP{α:Type}(C:ak->Bool)(s:ak):∀m:List (ak×α),getM (m.filter λp=>!C p.1) s=if C s then none else getM m s
 |[]=>by simp[getM]|(k,v)::r=>by
  have ih:=adP C s r;rw[List.filter_cons];cases a:C k with
  |true =>
   simp only[a,Bool.not_true,aKO,if_false];rw[ih,getM];by_cases h:s=k
   ·subst h;simp[a]
   ·rw[if_neg h]
  |false =>
   simp only[a,aKV,if_true];rw[getM,getM,ih];by_cases h:s=k
   ·subst h;simp[a]
   ·rw[if_neg h,if_neg h]
structure o4{α:Type}(C:ak->Bool)(m1:List (ak×α))(ks:List ak)(m:List (ak×α)):Prop where
 o8:ks.Nodup
 Dj:∀s∈ks,s∈cd m1
 n:(cd m).Nodup
 g:∀s,getM m s=if s∈ks/\C s=true then none else getM m1 s
section
variable {α:Type}{C:ak->Bool}{m1 m:List (ak×α)}{ks:List ak}
theorem o4.start(h:(cd m1).Nodup):o4 C m1 [] m1:=⟨.nil,λs h=>d6,h,λs=>be⟩
theorem o4.len(h:o4 C m1 ks m):ks.length<=m1.length:=by
 have:=List.Nodup.length_le_of_subset h.o8 h.Dj;simpa[cd]using this
theorem o4.next(h:o4 C m1 ks m){q:ak}{a:α}(ar:(q,a)∈m)(d:q∉ks):o4 C m1 (ks++[q]) (if C q then mm m q else m):=by
 have o:=(sE h.n).2 ar;have b:=h.g q;rw[if_neg (λe=>d e.1),o]at b;refine⟨?_,λs ax=>?_,?_,λs=>?_⟩
 ·rw[List.nodup_append];exact⟨h.o8,be,λx ah y f=>by rw[aKU]at f;rw[f];grind⟩
 ·rcases aKG.1 ax with ax|ax
  ·exact h.Dj s ax
  ·rw[aKU]at ax;rw[ax];by_cases j:q∈cd m1
   ·exact j
   ·rw[getM_none.2 j]at b;cases b
 ·split
  ·exact QX h.n _
  ·exact h.n
 ·split
  ·rename_i c;rw[QY h.n,h.g];by_cases ax:s=q
   ·subst ax;simp[c]
   ·simp[ax]
  ·rename_i c;rw[h.g];by_cases ax:s=q
   ·subst ax;simp[d,c]
   ·simp[ax]
theorem o4.done(h:o4 C m1 ks m)(he:m.filter (λp=>!ks.contains p.1)=[])(s:ak):getM m s=if C s then none else getM m1 s:=by
 rw[h.g];by_cases b:C s=true
 ·by_cases ax:s∈ks
  ·rw[if_pos ⟨ax,b⟩,if_pos b]
  ·rw[if_neg (λe=>ax e.1),if_pos b];cases d:getM m1 s with
   |none=>rfl|some a =>
    have c:=h.g s;rw[if_neg (λe=>ax e.1),d]at c;have:(s,a)∈m.filter (λp=>!ks.contains p.1):=aKB.2 ⟨(sE h.n).1 c,by simpa using ax⟩;rw[he]at this;cases this
 ·rw[if_neg (λe=>b e.2),if_neg b]
end
attribute [go_sem 5000] axg axh
def l6(c:UInt8):Bool:=decide (c.toNat=32)||decide (c.toNat=10)
def Bg(c:UInt8):Bool:=decide (c.toNat=45)||(decide (48<=c.toNat)&&decide (c.toNat<=57))||(decide (97<=c.toNat)&&decide (c.toNat<=122))||(decide (65<=c.toNat)&&decide (c.toNat<=90))
def q3:ak->ak|[]=>[]|c::r=>if l6 c then q3 r else c::r
def sX:ak->ak|[]=>[]|c::r=>if Bg c then c::sX r else[]
def sY:ak->ak|[]=>[]|c::r=>if Bg c then sY r else c::r
def lq(r:ak):ak×ak:=(sX (q3 r),sY (q3 r))
def hJ(x:Nat)(r:ak):Bool×ak:=match q3 r with
 |[]=>(false,[])|c::q=>if c.toNat=x then(true,q)else(false,c::q)
mutual
def zg:Nat->ak->ak->Option (I×ak)
 |0,_,_=>none|f+1,n,r=>if(hJ 40 r).1 then(match DR f [] (hJ 40 r).2 with
   |none=>none|some (l,q)=>some (.mk n l,(hJ 41 q).2))else some (.mk n [],(hJ 40 r).2)
def DR:Nat->List I->ak->Option (List I×ak)
 |0,_,_=>none|f+1,l,r=>if r=[]then some (l,r)else match zg f (lq r).1 (lq r).2 with
  |none=>none|some (t,q)=>if(hJ 44 q).1 then DR f (l++[t]) (hJ 44 q).2 else some (l++[t],(hJ 44 q).2)
end
def xA(r:ak):ak×ak:=lq (lq (hJ 46 r).2).2
def xB(w:ak×ak):ak×ak:=if w.1=[110,111,116]then lq w.2 else w
def DS:Nat->List Lit->ak->Option (List Lit×ak)
 |0,_,_=>none|f+1,l,r=>if r=[]then some (l,r)else if(hJ 46 r).1 then some (l,(hJ 46 r).2)else
  if(xB (xA r)).1=[]then some (l,(xB (xA r)).2)else match zg f (xB (xA r)).1 (xB (xA r)).2 with
  |none=>none|some (t,q)=>DS f (l++[⟨decide ((xA r).1=[110,111,116]),t⟩]) q
def Hm(f:Nat)(n r:ak):Option (aU×ak):=match zg f n r with
 |none=>none|some (t,q)=>match DS f [] q with
  |none=>none|some (b,hT)=>some (⟨t,b⟩,hT)
def Bh:Nat->List aU->ak->Option (List aU)
 |0,_,_=>none|f+1,l,r=>if(lq r).1=[]then some l else match Hm f (lq r).1 (lq r).2 with
  |none=>none|some (x,q)=>Bh f (l++[x]) q
def Bi:Nat->List I->ak->Option (List I)
 |0,_,_=>none|f+1,l,r=>if r=[]then some l else match zg f (lq r).1 (lq r).2 with
  |none=>none|some (t,q)=>if(hJ 44 q).1 then Bi f (l++[t]) (hJ 44 q).2 else some (l++[t])
def ep(s r:ak):ay:=.cells [.str s,.int .i64 ((s.length-r.length:Nat):Int)]
theorem Hn:∀r:ak,q3 r <:+ r
 |[]=>aKS|c::r=>by
  rw[q3];split
  ·exact(Hn r).trans (List.suffix_cons c r)
  ·exact aKS
theorem amg:∀r:ak,sY r <:+ r
 |[]=>aKS|c::r=>by
  rw[sY];split
  ·exact(amg r).trans (List.suffix_cons c r)
  ·exact aKS
theorem xC(r:ak):(lq r).2 <:+ r:=(amg _).trans (Hn r)
theorem um(x:Nat)(r:ak):(hJ x r).2 <:+ r:=by
 have h:=Hn r;rw[hJ];split
 ·exact List.nil_suffix
 ·rename_i c q e;rw[e]at h;split
  ·exact(List.suffix_cons c q).trans h
  ·exact h
variable {s r:ak}
theorem Ui{c:UInt8}(h:c::r <:+ s):r.length+1<=s.length/\s[s.length-(r.length+1)]?=some c/\r <:+ s/\s.length-(r.length+1)+1=s.length-r.length:=by
 obtain⟨p,rfl⟩:=h;refine⟨be,?_,⟨p++[c],be⟩,by simp only[aKI,aKD];omega⟩;rw[show(p++c::r).length-(r.length+1)=p.length by simp];simp
mutual
theorem zh:∀{f:Nat}{n r:ak}{t:I}{q:ak},zg f n r=some (t,q)->q <:+ r
 |0,_,_,_,_,h=>by cases h|f+1,n,r,t,q,h=>by
  rw[zg]at h;split at h
  ·split at h
   ·cases h
   ·rename_i l a e;simp only[Option.some.injEq,Prod.mk.injEq]at h;rw[<-h.2];exact((um 41 a).trans (amh e)).trans (um 40 r)
  ·simp only[Option.some.injEq,Prod.mk.injEq]at h;rw[<-h.2];exact um 40 r
theorem amh:∀{f:Nat}{l:List I}{r:ak}{m:List I}{q:ak},DR f l r=some (m,q)->q <:+ r
 |0,_,_,_,_,h=>by cases h|f+1,l,r,m,q,h=>by
  rw[DR]at h;split at h
  ·simp_all
  ·split at h
   ·cases h
   ·rename_i t a e;have b:=(zh e).trans (xC r);split at h
    ·exact((amh h).trans (um 44 a)).trans b
    ·simp only[Option.some.injEq,Prod.mk.injEq]at h;rw[<-h.2];exact(um 44 a).trans b
end
theorem ami(w:ak×ak):(xB w).2 <:+ w.2:=by
 unfold xB;split
 ·exact xC _
 ·exact aKS
theorem aMP(r:ak):(xA r).2 <:+ r:=((xC _).trans (xC _)).trans (um 46 r)
theorem amj:∀{f:Nat}{l:List Lit}{r:ak}{m:List Lit}{q:ak},DS f l r=some (m,q)->q <:+ r
 |0,_,_,_,_,h=>by cases h|f+1,l,r,m,q,h=>by
  rw[DS]at h;have a:=(ami (xA r)).trans (aMP r);split at h
  ·simp_all
  ·split at h
   ·simp only[Option.some.injEq,Prod.mk.injEq]at h;rw[<-h.2];exact um 46 r
   ·split at h
    ·simp only[Option.some.injEq,Prod.mk.injEq]at h;rw[<-h.2];exact a
    ·split at h
     ·cases h
     ·rename_i t b e;exact((amj h).trans (zh e)).trans a
variable {f:Nat}
theorem aMQ{n:ak}{x:aU}{q:ak}(h:Hm f n r=some (x,q)):q <:+ r:=by
 unfold Hm at h;split at h
 ·cases h
 ·rename_i t d a;split at h
  ·cases h
  ·rename_i b e c;simp only[Option.some.injEq,Prod.mk.injEq]at h;rw[<-h.2];exact(amj c).trans (zh a)
def vu(e:Nat)(l:List I):AV:=if l=[]then .aS 2 else .list (some e) 2 (l.map I.enc)
def uo(e:Nat)(l:List AV):AV:=if l=[]then .aS 3 else .list (some e) 3 l
theorem aMR(e:Nat)(l:List I):bx (vu e l) (.list none 2 (l.map I.enc)):=by
 unfold vu;split
 ·simp_all[bx.aS]
 ·exact bx.disown _ _ _
theorem aMS(e:Nat)(l:List AV):bx (uo e l) (.list none 3 l):=by
 unfold uo;split
 ·simp_all[bx.aS]
 ·exact bx.disown _ _ _
theorem bB.kX{P:Program}{gl:cQ}{xs:List AV}{H:List ay}{K:AV->List ay->Prop}(h:bB P gl f xs H λa H'=>∃r,bx a r/\cY r/\K r H'):bB P gl f xs H K :=
 ⟨h.1,λg w vs b c d=>(h.2 g w vs b c d).mono λ_ _ ⟨v,a,H',g',e,⟨r,ba,j,o⟩,p,q,y,_⟩=>⟨v,r,H',g',e,o,p,q,ba _ _ y,j.gG⟩⟩
theorem Ho(h:r <:+ s):r.length<=s.length:=h.length_le
def lZ(b:aY):List aY->List aY
 |[]=>[b]|x::r=>if Op.bytesLess b.var x.var then b::x::r else x::lZ b r
mutual
def xE:I->I->List aY->List aY×Bool
 |.mk n l,g,s=>if eJ (.mk n l)then(match jr s n with|some u=>(s,hi u g)|none=>(lZ ⟨n,g⟩ s,true))
  else if n != g.name||decide (l.length≠g.args.length)then([],false)else ad8 l g.args s
def ad8:List I->List I->List aY->List aY×Bool
 |p::ps,g::gs,s=>if(xE p g s).2 then ad8 ps gs (xE p g s).1 else((xE p g s).1,false)|[],_,s=>(s,true)|_::_,[],s=>(s,true)
end
theorem FE :∀(f:Nat)(a met:List ak),a.length+kM E met<=f ->
  (∀x,x∈met\/x∈a->x∈mA E f a met)/\((∀x∈met,∀y∈b2 E x,y∈met\/y∈a)->∀x∈mA E f a met,∀y∈b2 E x,y∈mA E f a met) /\
  ∀P:ak->Prop,(∀x,P x->∀y∈b2 E x,P y)->(∀x,x∈met\/x∈a->P x)->∀x∈mA E f a met,P x
 |0,a,met,h=>by
  have:a=[]:=List.eq_nil_of_length_eq_zero am;subst this;simp only[mA];grind
 |f+1,a,met,h=>by
  rw[mA];cases o:a.getLast? with
  |none =>
   have:a=[]:=List.getLast?_eq_none_iff.1 o;subst this;simp only;grind
  |some x =>
   obtain⟨p,rfl⟩:=List.getLast?_eq_some_iff.1 o;simp only[List.dropLast_concat,aKI,aKD,aKM]at h ⊢;cases q:met.contains x with
   |true =>
    rw[if_pos rfl];have ah:x∈met:=by simpa using q
    obtain⟨b,c,d⟩:=FE f p met (show p.length+kM E met<=f by omega);refine⟨λy e=>b y ?_,λe=>c ?_,λP j v=>d P j ?_⟩<;>grind
   |false =>
    rw[if_neg be];have ar:=Pg (E:=E) q;obtain⟨b,c,d⟩:=FE f (p++b2 E x) (met++[x]) (show (p++b2 E x).length+kM E (met++[x])<=f by rw[aKI];omega);refine⟨λy e=>b y ?_,λe=>c ?_,λP j v=>d P j ?_⟩<;>grind
theorem JP{l:List ak}{x:ak}:x∈qB l↔x∈l:=by
 have e:qB l=l.foldl (λa x=>nO ng x a) []:=by
  simp[qB,Ss]
 rw[e,(GS GQ Sq l [] List.Pairwise.nil).2 x];simp
def mh(l:List aU)(s x:ak):Prop:=x=s\/x∈cM (mv l) s
def qN(l:List aU)(D:ak->Prop):Prop:=∀r∈l,r.head.name≠eG->D r.head.name->∀y∈r.body,y.atom.name≠eG->D y.atom.name
theorem aeT{x y:ak}:y∈b2 (mv l) x↔∃r∈l,r.head.name≠eG/\r.head.name=x/\∃b∈r.body,b.atom.name≠eG/\b.atom.name=y:=by
 simp only[b2,aKC,aKB,beq_iff_eq];constructor
 ·rintro⟨e,⟨he,rfl⟩,rfl⟩;rw[aIL]at he;simp only[lp,aKF,aKB,aKC]at he;obtain⟨r,⟨a,c⟩,b,⟨d,h⟩,rfl⟩:=he;exact⟨r,a,iF,rfl,b,d,f8,rfl⟩
 ·rintro⟨r,a,c,rfl,b,d,h,rfl⟩;refine⟨⟨r.head.name,b.atom.name,b.neg⟩,⟨?_,rfl⟩,rfl⟩;rw[aIL];simp only[lp,aKF,aKB,aKC];exact⟨r,⟨a,iF⟩,b,⟨d,f8⟩,rfl⟩
theorem rY(l:List aU)(s:ak):qN l (mh l s):=λr b hd c y d e=>by
 obtain⟨j,o,-⟩:=FE (E:=mv l) _ (b2 (mv l) s) [] (Nat.le_refl _);have a:=aeT.2 ⟨r,b,hd,rfl,y,d,e,rfl⟩;refine .inr (JP.2 ?_);rcases c with h|h
 ·rw[h]at a;exact j _ (.inr a)
 ·exact o (λx ah=>by cases ah) _ (JP.1 h) _ a
theorem aeU{D:ak->Prop}(h:qN l D)(ax:D s):∀x,mh l s x->D x:=by
 have c:∀x,D x->∀y∈b2 (mv l) x,D y:=λx ah y a=>by
  obtain⟨r,d,e,rfl,b,j,o,rfl⟩:=aeT.1 a;exact h r d e ah b j o
 obtain⟨-,-,p⟩:=FE (E:=mv l) _ (b2 (mv l) s) [] (Nat.le_refl _);rintro x (rfl|ah)
 ·exact ax
 ·exact p D c (λy a=>c s ax y kO) x (JP.1 ah)
structure mB(l:List aU)(g:List I)(D:ak->Prop)(A:List I):Prop where
 v:gX A
 i:∀a∈g,D a.name->a∈A
 c:∀r∈l,D r.head.name->∀x∈nc A r,x∈A
 f:∀a∈A,D a.name->Fd l g A D a
section
variable {l cJ:List aU}{g g' A B:List I}{D D':ak->Prop}{lv:ak->Int}{n:Nat}
theorem Fd.sub(h:∀s,D' s->D s)(ah:Fd l g A D x):Fd l g A D' x:=by
 induction ah with
 |g h=>exact .g h|r S h1 b c _ d e ih=>exact .r S h1 b c (λa aG hd=>ih a aG (h _ hd)) d e
theorem JQ(ds:gX S)(j:gX h6){r:aU}(o:Hf r)(d:∀y∈r.body,y.atom.name≠eG->D y.atom.name)
  (e:∀a∈S,D a.name->a∈h6)(p:∀y∈r.body,y.neg=true->y.atom.name≠eG->∀a∈h6,a.name=y.atom.name->a∈S)(ah:x∈nc S r):x∈nc h6 r:=by
 refine OX ds j o (λy b ae a aG c=>e a aG ?_) (λy b c hd a aG=>⟨λh=>e a h (aG▸d y b hd),λh=>p y b c hd a h aG⟩) ah;simp only[dB,aKL,Bool.not_eq_true',beq_eq_false_iff_ne]at ae;rw[c];exact d y b ae.2
theorem Fd.aDG(w:∀r∈l,Hf r)(z:qN l D)(fN:gX B)(b:∀a,D a.name->(a∈A↔a∈B))(C:∀a∈g,D a.name->a∈g')(F:∀r∈l,D r.head.name->r∈cJ)(ah:Fd l g A D x):D x.name->Fd cJ g' B D' x:=by
 classical
 induction ah with
 |g h=>exact λhd=>.g (C _ h hd)|@r r x S h1 d G _ H o ih =>
  intro hd;have j:=w r h1;rw[wS j.toRV1 o]at hd;have p:=z r h1 j.hd hd;have hm:∀a,a∈S.filter (λa=>decide (D a.name))↔a∈S/\D a.name:=λa=>by simp
  refine .r (S.filter λa=>decide (D a.name)) (F r h1 hd) (λa aG=>d a ((hm a).1 aG).1) (λa aG=>(b a ((hm a).1 aG).2).1 (G a ((hm a).1 aG).1)) (λa aG K=>ih a ((hm a).1 aG).1 ((hm a).1 aG).2 ((hm a).1 aG).2) (λy q J v a aG e=>?_) ?_
  ·have c:D a.name:=e▸p y q v;exact(hm a).2 ⟨H y q J v a ((b a c).2 aG) e,c⟩
  ·exact JQ (D:=D) d (λa aG=>d a ((hm a).1 aG).1) j p (λa aG c=>(hm a).2 ⟨aG,c⟩) (λy _ _ _ a aG _=>((hm a).1 aG).1) o
theorem mB.sub(P:mB l g D A)(h:∀s,D' s->D s):mB l g D' A :=
 ⟨P.v,λa aG hd=>P.i a aG (h _ hd),λr b hd=>P.c r b (h _ hd),λa aG hd=>(P.f a aG (h _ hd)).sub h⟩
theorem aeW(w:∀r∈l,Hf r)(L:aPl l lv n)(z:qN l D)(C:qN l D')(P:mB l g D A)(Q:mB l g D' B)(K:Nat)
  (hk:∀a,D a.name->D' a.name->(lv a.name+1).toNat<K->(a∈A↔a∈B))(ah:Fd l g A D x):D x.name->D' x.name->(lv x.name+1).toNat<=K->x∈B:=by
 induction ah with
 |g h=>exact λ_ hd _=>Q.i _ h hd|@r r x S h1 F J _ G j ih =>
  intro o d ah;have c:=w r h1;rw[wS c.toRV1 j]at o d ah;have p:=z r h1 c.hd o;have q:=C r h1 c.hd d;have O:=(L.h r h1 c.hd).1;refine Q.c r h1 d x (JQ (D:=λs=>D s/\D' s/\(lv s+1).toNat<=K) F Q.v c (λy b hd=>⟨p y b hd,q y b hd,?_⟩) (λa aG hd=>ih a aG hd.1 hd.1 hd.2.1 hd.2.2) (λy b v hd a aG e=>?_) j)
  ·have:=L.b r h1 c.hd y b hd;split at this<;>omega
  ·have H:=L.b r h1 c.hd y b hd;rw[v,if_pos rfl,<-e]at H;exact G y b v hd a ((hk a (e▸p y b hd) (e▸q y b hd) am).2 aG) e
theorem SQ(d:∀r∈l,Hf r)(L:aPl l lv n)(e:qN l D)(j:qN l D')(P:mB l g D A)(Q:mB l g D' B){a:I}(o:D a.name)(p:D' a.name):a∈A↔a∈B:=by
 have key:∀K:Nat,∀a,D a.name->D' a.name->(lv a.name+1).toNat<K->(a∈A↔a∈B):=λK=>by
  induction K with
  |zero=>intro a _ _ h;omega|succ K ih =>
   intro a b c h;exact⟨λaG=>aeW d L e j P Q K ih (P.f a aG b) b c am,λaG=>aeW d L j e Q P K (λa x y z=>(ih a y x z).symm) (Q.f a aG c) c b am⟩
 exact key _ a o p (Nat.lt_succ_self _)
theorem mB.aDG(c:∀r∈l,Hf r)(d:qN l D)(P:mB l g D A)(e:∀r∈l,D r.head.name->r∈cJ)(h:∀r∈cJ,D r.head.name->r∈l)(b:∀a,D a.name->(a∈g↔a∈g')):mB cJ g' D A :=
 ⟨P.v,λa aG hd=>P.i a ((b a hd).2 aG) hd,λr j hd=>P.c r (h r j hd) hd,λa aG hd=>Fd.aDG c d P.v (λ_ _=>Iff.rfl) (λa aG hd=>(b a hd).1 aG) e (P.f a aG hd) hd⟩
theorem aeX(fN:gX B)(j:B.length<=512):∀{f:Nat}{A A':List I}{e:Nat},(∀a∈A,a∈B)->(∀C,gX C->(∀a∈A,a∈C)->(∀a∈C,a∈B)->∀x∈eB l C,x∈B)->xe f l A=some (e,A')->e=0/\∀a∈A',a∈B
 |0,_,_,_,_,_,h=>by cases h|f+1,A,A',e,cE,b,h=>by
  have o:gX A:=λa aG=>fN a (cE a aG);have c:=b A o (λ_ h=>h) cE;have hd:jR (eB l A)=false:=by
   rw[jR,List.any_eq_false];intro a aG;have:=GH (fN a (c a aG));simpa using this
  rw[xe,hd,if_neg be]at h;split at h
  ·simp only[Option.some.injEq,Prod.mk.injEq]at h;obtain⟨rfl,rfl⟩:=h;exact⟨rfl,cE⟩
  ·have hm:∀a,a∈fx (A++kZ l A)↔a∈A\/a∈kZ l A:=λa=>by rw[rI,aKG]
   have ax:∀a∈fx (A++kZ l A),a∈B:=λa aG=>((hm a).1 aG).elim (cE a) λh=>c a (ub.1 h).1;have d:=List.Nodup.length_le_of_subset (K1 (wZ (A++kZ l A))) ax;rw[if_neg am,if_neg am]at h;exact aeX fN j ax (λC p q=>b C p λa aG=>q a ((hm a).2 (.inl aG))) h
theorem aPm.pm(h:aPm l lv g k A):mB l g (λs=>lv s<k) A :=
 ⟨h.v,λa aG _=>h.i a aG,h.c,λa aG _=>(h.s a aG).2.sub λ_ _=>trivial⟩
theorem aeY(d:∀r∈l,Hf r)(L:aPl l lv n)(p:∀r∈l,D r.head.name)(q:qN l D)(P:mB l g D B)(z:B.length<=512):∀(m k:Nat){A A':List I}{e:Nat},aPm l lv g k A->(∀a∈A,a∈B) ->
  GJ l ((List.range' k m).map λk:Nat=>(aKP l.length).filter λi=>lv l[i]!.head.name==(k:Int)) A=some (A',e)->e=0
 |0,k,A,A',e,h,cE,he=>by
  simp only[List.range'_zero,aKR,GJ,Option.some.injEq,Prod.mk.injEq]at he;exact he.2.symm
 |m+1,k,A,A',e,h,cE,he=>by
  have b:=λ{A':List I}=>OZ (A':=A') d L 1 k h;rw[List.range'_succ,aKH]at he;simp only[List.range'_succ,List.range'_zero,aKH,aKR]at b;obtain⟨j,F⟩:∃j,j=(aKP l.length).filter λi=>lv l[i]!.head.name==(k:Int):=⟨_,rfl⟩;rw[<-F]at he b;have H:∀r∈j.map (l[·]!),r∈l/\lv r.head.name=k:=λr d=>by
   rw[F]at d;obtain⟨i,al,rfl⟩:=aKC.1 d;simp only[aKB,List.mem_range,beq_iff_eq]at al;exact⟨ek al.1,al.2⟩
  rw[GJ]at he;split at he
  ·cases he
  ·rename_i Z J ax;have K:qN l λs=>lv s<k:=λr c hd hk y o O=>by
    have:=L.b r c hd y o O;split at this<;>omega
   obtain⟨rfl,v⟩:=aeX P.v z cE (λC Q R T x ah=>by
    obtain⟨r,V,W⟩:=aKF.1 ah;obtain⟨c,Uf⟩:=H r V;have w:=d r c;have G:=q r c w.hd (p r c);refine P.c r c (p r c) x (JQ (D:=D) Q P.v w G (λa aG _=>T a aG) (λy o X hd a aG e=>R a ?_) W);have Y:=L.b r c w.hd y o hd;rw[X,if_pos rfl,<-e]at Y;exact(SQ d L K q h.pm P am (e▸G y o hd)).2 aG) ax
   rw[if_pos rfl]at he;exact aeY d L p q P z m (k+1) (b (by rw[GJ,ax];rfl)) v he
theorem azU(c:hG l=0)(d:(oC l).2=0)(j:rO g=true)(o:∀r∈l,D r.head.name)(p:qN l D)(P:mB l g D B)(b:∀a∈g,a∈B)(q:B.length<=512){e:Nat}(h:iz l g=some (A,e)):e=0:=by
 obtain⟨lv,n,L,gq,he⟩:=adh c d j;exact aeY (alu c) L o p P q n 0 gq (λa aG=>b a ((rI _ _).1 aG)) (he▸h)
theorem azW(h:iz l g=some (A,0))(D:ak->Prop):mB l g D A:=by
 obtain⟨b,c,d,e⟩:=adi h;exact⟨b,λa aG _=>c a aG,λr j _ x ah=>e x (aKF.2 ⟨r,j,ah⟩),λa aG _=>(d a aG).sub λ_ _=>trivial⟩
end
theorem azX{m:List aU}(h:hG l=0)(hm:∀r∈m,r∈l)(c:m.length<=128):hG m=0:=by
 unfold hG at h ⊢;split at h
 ·cases h
 ·rw[if_neg am];cases b:m.find? λr=>!(fK r==0)with
  |none=>rfl|some s =>
   cases a:l.find? λr=>!(fK r==0)with
   |none=>exact absurd (List.find?_some b) (List.find?_eq_none.1 a s (hm s (List.mem_of_find?_eq_some b)))|some s2 =>
    rw[a]at h;have:=List.find?_some a;simp only[Option.map_some,Option.getD_some]at h;rw[h]at this;cases this
theorem azY{m:List aU}(h:(oC l).2=0)(hm:∀r∈m,r∈l):(oC m).2=0:=by
 obtain⟨lv,n,L⟩:=Jq h;have ds:eE (mv m) lv:=λe he=>by
  rw[aIL]at he;simp only[lp,aKF,aKB,aKC]at he;obtain⟨r,⟨a,c⟩,b,⟨d,o⟩,rfl⟩:=he;exact L.b r (hm r a) iF b d (by simpa using o)
 obtain⟨p,a,c,d⟩:=Wt (λe he=>aIM he) ds;have j:=(Jh (n:=(il m).length) d (λe he=>(aIM he).1) a ((il m).length*(il m).length+2) (lev:=[]) (λs=>c s)).2;obtain⟨R,de⟩:=aIN m;rw[de]at j;cases R with
 |none=>exact absurd rfl j|some lev=>unfold oC AZ;rw[de];rfl
structure bz where
 kind:Int
 given:List I
 pat:I
def bz.enc(x:bz):AV:=.agg [.int .i64 x.kind,.list none 2 (x.given.map I.enc),.str x.pat.name,.list none 2 (x.pat.args.map I.enc)]
instance:Enc bz where
 sz:=4
 enc:=bz.enc
 arg _:=rfl
 can x:=by
  simp only[bz.enc,wU,aKH,aKR,AV.can,uZ,List.map_map];rw[show x.given.map (AV.can∘I.enc)=x.given.map I.enc from List.map_congr_left λa _=>Enc.can a,show x.pat.args.map (AV.can∘I.enc)=x.pat.args.map I.enc from List.map_congr_left λa _=>Enc.can a]
 inj x y h:=by
  simp only[bz.enc,AV.agg.injEq,List.cons.injEq,AV.str.injEq,AV.bool.injEq,AV.int.injEq,AV.list.injEq,true_and,and_true]at h;obtain⟨aK,h1,ab,an⟩:=h;have afn:x.kind=y.kind:=aK;have afp:x.given=y.given:=(List.map_inj_right (f:=I.enc) λa b h=>Enc.inj a b h).1 h1;have afq:x.pat=y.pat:=by rw[<-x.pat.eta,<-y.pat.eta,ab,(List.map_inj_right λa b h=>I.FT a b h).1 an]
  cases x;cases y;simp only at afn afp afq;simp only[afn,afp,afq]
 cl _:=rfl
 eS x:=(x.given.length<=M/\∀a∈x.given,Enc.eS a)/\x.pat.name.length<=M/\(x.pat.args.length<=M/\∀a∈x.pat.args,a.eS)
 om {γ b off x} h:=by
  have h:=As h;simp only[bz.enc,AV.cells,aKK,List.not_mem_nil,or_false,forall_eq_or_imp,forall_eq]at h;obtain⟨⟨v0,gI⟩,⟨v1,aj⟩,⟨v2,av⟩,⟨v3,aQ⟩⟩:=h;exact⟨(ht.sA (c:=.list none (Enc.sz I) (x.given.map Enc.enc)) aj),ht.sA av,ht.sA (self:=ht.Ap x.pat.args) aQ⟩
 lj {g x v} h:=by
  obtain⟨ws,rfl,h1,_⟩:=bn.oP h;have h:=Au h1;simp only[aKK,List.not_mem_nil,or_false,forall_eq_or_imp,forall_eq]at h;obtain⟨⟨v0,gI⟩,⟨v1,aj⟩,⟨v2,av⟩,⟨v3,aQ⟩⟩:=h;exact⟨(ht.ov (c:=.list none (Enc.sz I) (x.given.map Enc.enc)) aj),ht.ov av,ht.ov (self:=ht.Ap x.pat.args) aQ⟩
instance:Inhabited bz:=⟨⟨0,[],default⟩⟩
theorem bz.b0(x:bz):x.enc.cells=[.int .i64 x.kind,.list none 2 (x.given.map I.enc),.str x.pat.name,.list none 2 (x.pat.args.map I.enc)]:=rfl
theorem bz.fold(x:bz):AV.agg [.int .i64 x.kind,.list none 2 (x.given.map I.enc),.str x.pat.name,.list none 2 (x.pat.args.map I.enc)]=x.enc:=rfl
theorem bz.no(x:bz):x.enc.a1=x.enc:=rfl
theorem bz.cK(x:bz):x.enc.arg=true:=rfl
theorem bz.on(x:bz):x.enc.one=false:=rfl
theorem bz.tQ(x:bz):x.enc.res=true:=rfl
theorem bz.eqv(x:bz):(Enc.enc x:AV)=x.enc:=rfl
theorem bz.sB(l:List bz):(Enc.enc l:AV)=.list none 4 (l.map bz.enc):=rfl
instance aT.aAO(x:bz):aT x.enc x:=aT.enc x
instance hD.aAO(l:List bz):hD (l.map bz.enc) l:=hD.map l
instance aT.aKx{xs:List AV}{l:List bz}[h:hD xs l]:aT (.list none 4 xs) l:=aT.list h
attribute [go_sem 2000] bz.b0 bz.fold bz.no bz.cK bz.on bz.tQ bz.eqv bz.sB
structure TX(P:Program)(T L S rv O G1:TypeId):Prop where
 Lq:Jd P T L S
 hO:∃f0 f1 f2:Field,P.underlying O=some (.struct #[f0,f1,f2])/\f0.type=rv/\f0.offset=0/\f1.type=L/\f1.offset=1/\f2.type=T/\f2.offset=2
 aAP:P.underlying G1=some (.slice O)
 gq:P.underlying rv=some (.int .i64)
 aNm:P.cellsOf rv=1
 afs:P.cellsOf O=4
section
variable {H:Type}{enc:TypeId×Value->H}{P:Program}{w:World}{base:Nat}{spare:Nat->Bool}{held:Bool}{γ:fA}{kz:DataW H->Nat}{T L S rv O G1:TypeId}
def rB(x:bz):Prop:=∀a∈x.given,fH 1048576 a
def bz.cs(x:bz):List AV:=[.int .i64 x.kind,.list none 2 (x.given.map I.enc)]++x.pat.cells
theorem bz.aft(x:bz):AV.agg x.cs=x.enc:=by rw[bz.cs,I.cells,oj];rfl
variable {d:DataW H}{ps:List MemPlace}
theorem TY(ae:Ac kz)(a:TX P T L S rv O G1)(q:∀b o v,w.cell? ⟨b,o,none⟩=some v->γ b o=some v){cs:List Value} 
  (h:DataW.trod enc P w base spare held n O cs=some (d,ps))(hd:kz d<=1048576):∃x:bz,fX γ x.cs cs/\rB x:=by
 cases n with
 |zero=>simp[DataW.trod]at h|succ n =>
  obtain⟨C,D,F,hO,G,J,K,Q,R,V⟩:=a.hO;obtain⟨xs,m,hm,ah,y,W,c⟩:=DataW.trod_struct hO h;simp at hm;subst hm;rw[a.afs]at y
  match cs,y,xs,W with
  |[Z,c1,c2,gv],_,[aM,x1,x2],_ =>
   have e:=c 0 C rfl;have j:=c 1 D rfl;have p:=c 2 F rfl;rw[G,J,a.aNm]at e;rw[K,Q,a.Lq.asQ]at j;rw[R,V,a.Lq.Fm]at p;simp only[List.drop_zero,List.take_succ_cons,List.take_zero,List.drop_succ_cons,List.getElem?_cons_zero,List.getElem?_cons_succ]at e j p;simp only[Prod.mk.injEq]at ah;obtain⟨rfl,_⟩:=ah;obtain⟨k,z,z2,_⟩:=DataW.trod_int a.gq e;simp only[List.cons.injEq,and_true]at z;subst z;obtain⟨bE,v,B,ar,_,X⟩:=aJ4 ae a.Lq q j (Nat.le_trans (ae.agg _ _ be) hd);simp only[List.cons.injEq,and_true]at B;subst B;obtain⟨t,Y,_⟩:=Lt ae a.Lq q n _ _ _ p (Nat.le_trans (ae.agg _ _ be) hd);exact⟨⟨k,bE,t⟩,.cons _ _ _ _ rfl (.int _ k) (.cons _ _ _ _ (ak7 (s:=2) (l:=bE.map I.enc) ar) ar Y),X⟩
theorem TZ(ae:Ac kz)(a:TX P T L S rv O G1)(c:∀b o v,w.cell? ⟨b,o,none⟩=some v->γ b o=some v){cs:List Value} 
  (h:DataW.trod enc P w base spare held n G1 cs=some (d,ps))(hd:kz d<=1048576):∃(xs:List bz)(v:Value),cs=[v]/\dr γ (Enc.enc xs) v/\xs.length<=1048576/\∀x∈xs,rB x:=by
 have q:M=1099511627776:=rfl;cases n with
 |zero=>simp[DataW.trod]at h|succ n =>
  obtain⟨bE,v,j,e,p⟩:=Ls (z:=3) bz.cs rB am ae a.aAP a.afs c (λcs d ps h hd=>TY ae a c h hd) h hd;refine⟨bE,v,j,?_,p⟩;rw[show(bE.map λx:bz=>AV.agg x.cs)=bE.map bz.enc from List.map_congr_left λt _=>t.aft]at e;exact e
end
open Go Go.ChangeShapes Go.WideShapes
def LL(P:Program)(L:List TypeId):Bool:=L.all λt=>match P.underlying t with
 |some (.slice e)=>decide (0<P.cellsOf e)&&L.contains e|some (.pointer e)=>L.contains e|some (.struct dC)=>dC.toList.all λf=>L.contains f.type|some (.array _ e)=>L.contains e|some (.map _ e)=>L.contains e|_=>true
section
variable {H:Type}{L:List TypeId}{enc:TypeId×Value->H}{P:Program}{w w':World}{base:Nat}
theorem aNi(J:LL P L=true){r r':TypeId->List Value->Option (DataW H×List MemPlace)}(z:∀t cs x,t∈L->r t cs=some x->r' t cs=some x){t:TypeId}(cf:t∈L){cs:List Value}{x:DataW H×List MemPlace}
  (h:DataW.trodStep enc P w base (λ_=>true) true r t cs=some x):DataW.trodStep enc P w base (λb=>decide (b<w.heap.size)) true r' t cs=some x:=by
 have ej:=aKN.1 J t cf;unfold DataW.trodStep at h ⊢;split at h<;>first|exact h|skip
 case h_6 ax =>
  simp only[ax,aKT,decide_eq_true_eq]at ej;simp only[aKJ,aKQ]at h ⊢;obtain⟨y,⟨j,o,K⟩,rfl⟩:=h;exact⟨y,⟨j,o,z _ _ _ ej K⟩,rfl⟩
 case h_8 e a len cap ax =>
  simp only[ax,aKL,aKT,decide_eq_true_eq]at ej;simp only at h ⊢;split at h
  ·rename_i o;rw[if_pos o];simp only[if_true,aKJ,aKQ]at h ⊢;obtain⟨elems,he,p,B,rfl⟩:=h;have one:∀(i:Nat)y,(w.cells? base (a.add (i*P.cellsOf e)) (P.cellsOf e)).bind (r e)=some y->(w.cells? base (a.add (i*P.cellsOf e)) (P.cellsOf e)).bind (r' e)=some y:=λi y c=>by
    simp only[aKQ]at c ⊢;obtain⟨j,D,F⟩:=c;exact⟨j,D,z _ _ _ ej.2 F⟩
   refine⟨elems,mapM_carry he λi y _ _ c=>one i y c,p,?_,rfl⟩;by_cases ae:a.block<w.heap.size
   ·rw[if_pos ni];exact mapM_carry B λi y _ _ c=>one _ y c
   ·rw[if_neg ni];have C:cap-len=0:=by
     rcases Nat.eq_zero_or_pos (cap-len)with C|C
     ·exact C
     ·exfalso;have O:p.length=cap-len:=by simpa using mapM_some_length B
      have D:=mapM_some_get B 0 0 (by simp[C]);rw[List.getElem?_eq_getElem am,aKQ]at D;obtain⟨j,F,_⟩:=D;have:=World.cells?_block F ej.1;refine ae ?_;unfold Addr.add at this;split at this
      ·exact this
      ·exact this
    rw[C]at B;simpa using B
  ·cases h
 case h_9 ax =>
  simp only[ax,aKN,aKT,decide_eq_true_eq]at ej;split at h
  ·rename_i o;rw[if_pos o];simp only[aKJ]at h ⊢;obtain⟨xs,ah,rfl⟩:=h;exact⟨xs,mapM_carry ah (λf y G _ c=>z _ _ _ (ej f G) c),rfl⟩
  ·cases h
 case h_10 ax =>
  simp only[ax,aKT,decide_eq_true_eq]at ej;split at h
  ·rename_i o;rw[if_pos o];simp only[aKJ]at h ⊢;obtain⟨xs,ah,rfl⟩:=h;exact⟨xs,mapM_carry ah (λf y _ _ c=>z _ _ _ ej c),rfl⟩
  ·cases h
 case h_14 ax =>
  simp only[ax,aKT,decide_eq_true_eq]at ej;split at h
  ·split at h
   ·rename_i o;rw[if_pos o];simp only[aKQ]at h ⊢;obtain⟨d,he,hd⟩:=h;refine⟨d,mapM_carry he (λx y _ _ c=>?_),hd⟩;simp only[aKQ]at c ⊢;obtain⟨key,hk,v⟩:=c;refine⟨key,hk,?_⟩;split at v
    ·rename_i G;rw[if_pos G];simp only[aKJ]at v ⊢;obtain⟨q,v,rfl⟩:=v;exact⟨q,z _ _ _ ej v,rfl⟩
    ·cases v
   ·cases h
  ·cases h
theorem amt(a:LL P L=true):∀(n:Nat)(t:TypeId)(cs:List Value)(x:DataW H×List MemPlace),t∈L ->
  DataW.trod enc P w base (λ_=>true) true n t cs=some x->DataW.trod enc P w base (λb=>decide (b<w.heap.size)) true n t cs=some x
 |0,_,_,_,_,h=>by simp[DataW.trod]at h|n+1,t,cs,x,cf,h=>by
  rw[DataW.trod_step]at h ⊢;exact aNi a (amt a n) cf h
theorem amu(c:LL P L=true):∀{bE:List TypeId}{vs:List Value}{hz:List (DataW H)}{ps:List MemPlace},(∀t∈bE,t∈L)->DataW.TrodAll enc P w base (λ_=>true) true bE vs hz ps->DataW.TrodAll enc P w base (λb=>decide (b<w.heap.size)) true bE vs hz ps
 |[],_,_,_,_,h=>by
  obtain⟨rfl,rfl,rfl⟩:=trodAll_nil h;exact rfl
 |t::_,_,_,_,cf,h=>by
  obtain⟨v,e,d,j,a,b,rfl,rfl,rfl,⟨n,o⟩,p⟩:=trodAll_cons h;exact⟨a,b,⟨n,amt c _ _ _ _ (cf t be) o⟩,amu c (λt q=>cf t (by simp[q])) p,rfl⟩
theorem aNj(a:∀b,b<w.heap.size->w'.heap[b]?=w.heap[b]?){p:MemPlace}(ar:p.block<w.heap.size):w.sameAt w' p:=by
 cases p with
 |cell b off=>simp only[World.sameAt,World.cell?];rw[a b ar]|map b=>exact a b ar
theorem aNk{f:Func}{s:ChangeSpec}{c B e C:Bool}{W y:World}{args:Array Value}{v:Value}{hz F:List (DataW H)}{z:List MemPlace}
  (V:LL P L=true)(cf:∀t∈f.params.toList,t∈L)(K:s.vars=[])
  (O:DataW.Whole enc P f.params.toList s.vars c W args.toList hz F z)
  (Q:∀(b:Nat)(D:Nat->Bool)(hd:Bool),DataW.TrodAll enc P y b D hd f.resultTypes.toList (v.resultList f.resultTypes.size) (s.fn H (hz++F)).results [])
  (X:(s.fn H (hz++F)).args=hz)(Y:(s.fn H (hz++F)).vars=[])
  (R:∀b,b<W.heap.size->y.heap[b]?=W.heap[b]?)(Z:y.os=W.os)(nA:y.output=W.output)
  (b9:∀(j:Nat)(t:TypeId)(r:Value),f.resultTypes[j]?=some t->(v.resultList f.resultTypes.size)[j]?=some r->Value.okWide P y .any 0 t r) :
  s.post enc P f c B e C W args v y:=by
 have bJ:=O.lt;have Uo:=O;obtain⟨p,q,cE,T,rfl,Gx,pB⟩:=O;rw[K]at T;obtain⟨rfl,rfl⟩:F=[]/\q=[]:=trodVars_none T;have G:∀x∈p,x.block<W.heap.size:=λx ah=>bJ x (by simp[ah])
 -- places are carried along with what is read
 have o:∀(D:Nat->Bool),DataW.TrodAll enc P W 0 D true f.params.toList args.toList hz p->DataW.TrodAll enc P y 0 D true f.params.toList args.toList hz p:=by
  intro D;generalize f.params.toList=bE;generalize args.toList=vs;revert bE vs;have key:∀(bE:List TypeId)(vs:List Value)(hz:List (DataW H))(J:List MemPlace),(∀x∈J,x.block<W.heap.size)->DataW.TrodAll enc P W 0 D true bE vs hz J->DataW.TrodAll enc P y 0 D true bE vs hz J:=by
   intro bE;induction bE with
   |nil=>intro vs hz J _ h;obtain⟨rfl,rfl,rfl⟩:=trodAll_nil h;exact rfl
   |cons t bE ih =>
    intro vs hz J ar h;obtain⟨v,amv,d,amw,a,b,rfl,rfl,rfl,⟨n,ab⟩,an⟩:=trodAll_cons h;exact⟨a,b,⟨n,DataW.trod_carry n _ _ _ ab λx ah=>aNj R (ar x (by simp only[aKG];exact .inl ah))⟩,ih _ _ _ (λx ah=>ar x (by simp only[aKG];exact .inr ah)) an,rfl⟩
  intro bE vs h;exact key bE vs hz p G h
 have Du:DataW.TrodAll enc P y 0 (λb=>decide (b<W.heap.size)) true f.params.toList args.toList hz p:=o _ (amu V cf cE);have lR:DataW.TrodAll enc P y 0 (λ_=>true) true f.params.toList args.toList hz p:=o _ cE;refine⟨hz,[],p++[],[],p,[],Uo,Q _ _ _,by rw[X];exact Du,by rw[K,Y];exact rfl,⟨Z,nA,λi al=>?_⟩,λ_=>⟨b9,_,[],([]++p)++[],⟨[]++p,[],trodAll_append lR (Q _ _ _),by rw[K];rfl,rfl,?_,?_⟩,?_⟩⟩
 ·grind
 ·intro b off ar;have:=Gx b off (by simpa using ar);have ae:b<W.heap.size:=G (.cell b off) (by simpa using ar);simp only[World.frozen?]at this ⊢;rw[R b ae];exact this
 ·intro aG;simpa using pB aG
 ·intro x ah _;simpa using ah
end
structure nn where
 s:List UInt8
 n:Int
 a:Bool
 b:Bool
def nn.DY{H:Type}(k:nn):DataW H:=.agg [.lit (.string k.s),.lit (.int .i64 k.n),.lit (.bool k.a),.lit (.bool k.b)]
def nn.cells(k:nn):List AV:=[.str k.s,.int .i64 k.n,.bool k.a,.bool k.b]
def nn.nw(k:nn):List Value:=[.string ⟨k.s.toArray⟩,.int .i64 k.n,.bool k.a,.bool k.b]
structure LM(P:Program)(A R S rv B:TypeId)(n:Nat):Prop where
 cE:P.underlying A=some (.array n R)
 de:∃f0 f1 f2 f3:Field,P.underlying R=some (.struct #[f0,f1,f2,f3])/\f0.type=S/\f0.offset=0/\f1.type=rv/\f1.offset=1/\f2.type=B/\f2.offset=2/\f3.type=B/\f3.offset=3
 ds:P.underlying S=some .string
 gq:P.underlying rv=some (.int .i64)
 fN:P.underlying B=some .bool
 aNl:P.cellsOf A=n*4
 Hb:P.cellsOf R=4
 OM:P.cellsOf S=1
 aNm:P.cellsOf rv=1
 Lr:P.cellsOf B=1
section
variable {H:Type}{enc:TypeId×Value->H}{P:Program}{w:World}{base:Nat}{spare:Nat->Bool}{held:Bool}{A R S rv B:TypeId}{n:Nat}
variable {fuel:Nat}{ps:List MemPlace}
theorem aNn(T:LM P A R S rv B n){cs:List Value}{k:nn}(h:DataW.trod enc P w base spare held fuel R cs=some (k.DY,ps)):cs=k.nw:=by
 obtain⟨K,O,Q,V,de,W,X,Y,Z,aR,jx,fe,mg⟩:=T.de;obtain⟨xs,m,hm,ah,C,nS,d⟩:=DataW.trod_struct de h;rw[T.Hb]at C
 match cs,C with
 |[j3,c1,c2,gv],_ =>
  have c:=congrArg Prod.fst ah;simp only[nn.DY,DataW.agg.injEq]at c
  match xs,c with
  |[aM,x1,x2,x3],c =>
   simp only[aKH,aKR,List.cons.injEq,and_true]at c;obtain⟨e,j,o,p⟩:=c;have q:=d 0 K rfl;have v:=d 1 O rfl;have y:=d 2 Q rfl;have z:=d 3 V rfl;rw[W,X,T.OM]at q;rw[Y,Z,T.aNm]at v;rw[aR,jx,T.Lr]at y;rw[fe,mg,T.Lr]at z;simp only[List.drop_zero,List.take_succ_cons,List.take_zero,List.drop_succ_cons,List.getElem?_cons_zero,List.getElem?_cons_succ]at q v y z;obtain⟨s,D,z0,_⟩:=DataW.trod_string T.ds q;obtain⟨i,F,gB,_⟩:=DataW.trod_int T.gq v;obtain⟨a,G,z2⟩:=DataW.trod_bool T.fN y;obtain⟨b,J,z3⟩:=DataW.trod_bool T.fN z;subst z0 gB z2 z3;simp only[DataW.lit.injEq,Lit.string.injEq,Lit.int.injEq,Lit.bool.injEq,true_and]at e j o p;simp only[List.cons.injEq,and_true]at D F G J;subst D F G J;obtain⟨ks,o8,pJ,rq⟩:=k;simp only at e j o p;subst e j o p;rfl
variable {ks:List nn}
theorem aNo(T:LM P A R S rv B n){cs:List Value}(h:DataW.trod enc P w base spare held fuel A cs=some (.agg (ks.map nn.DY),ps)) :
  cs.length=n*4/\ks.length=n/\∀(i:Nat)k,ks[i]?=some k->(cs.drop (i*4)).take 4=k.nw:=by
 obtain⟨xs,m,hm,ah,j,z,o⟩:=DataW.trod_array T.cE h;have b:=congrArg Prod.fst ah;simp only[DataW.agg.injEq]at b;have p:ks.length=n:=by have:=congrArg List.length b;simp at this;omega
 refine⟨by rw[j,T.aNl],p,λi k hk=>?_⟩;have al:i<n:=by grind
 have c:=o i al;rw[T.Hb]at c;have e:(xs.map (·.1))[i]?=some k.DY:=by rw[<-b];simp[hk]
 rw[List.getElem?_map,aKJ]at e;obtain⟨y,q,a⟩:=e;rw[q]at c;obtain⟨d,v⟩:=y;simp only at a;subst a;exact aNn T c
variable {γ:fA}
theorem amz{b:Nat}:∀(ks:List nn)(off:Nat),(∀k∈ks,k.s.length<=M)->(∀(i:Nat)k,ks[i]?=some k->∀j v,k.nw[j]?=some v->γ b (off+i*4+j)=some v)->fB γ b off (ks.map nn.cells).flatten
 |[],_,_,_=>.nil _ _|k::ks,off,c,h=>by
  have a:=h 0 k rfl;have d:=amz ks (off+4) (λk hk=>c k (by simp[hk])) λi e hk j v o=>by
   have:=h (i+1) e (by simpa using hk) j v o;rwa[show off+4+i*4+j=off+(i+1)*4+j by omega]
  simp only[aKH,List.flatten_cons,nn.cells,List.cons_append,List.nil_append];refine .cons _ _ _ _ _ (by simpa using a 0 _ rfl) rfl (.str _ (c k be)) (.cons _ _ _ _ _ (by simpa using a 1 _ rfl) rfl (.int _ _) (.cons _ _ _ _ _ (by simpa using a 2 _ rfl) rfl (.bool _) (.cons _ _ _ _ _ (by simpa using a 3 _ rfl) rfl (.bool _) d)))
theorem aNp(T:LM P A R S rv B n){name:String}{g:Nat}{W:World}(c:P.globalNamed name=some g)(e:(P.globals[g]?).map (·.type)=some A)(a:∀k∈ks,k.s.length<=M)
  (h:laidMet P [(name,.agg (ks.map nn.DY))] W)(y:∀b o v,W.cell? ⟨b,o,none⟩=some v->γ b o=some v):fB γ g 0 (ks.map nn.cells).flatten:=by
 obtain⟨ps,⟨g',K,cs,fuel,p,q,z,C,D,hd,_,_⟩,_⟩:=h;obtain rfl:=Option.some.inj (c.symm.trans z);obtain rfl:=Option.some.inj (e.symm.trans C);obtain⟨O,Q,F⟩:=aNo T hd;refine amz ks 0 a λi k hk j v d=>y _ _ _ ?_;rw[World.var?_cell c D,<-Array.getElem?_toList];have G:=F i k hk;have J:j<4:=by grind
 rw[<-G,List.getElem?_take,if_pos J,List.getElem?_drop]at d;simpa using d
end
end AM
