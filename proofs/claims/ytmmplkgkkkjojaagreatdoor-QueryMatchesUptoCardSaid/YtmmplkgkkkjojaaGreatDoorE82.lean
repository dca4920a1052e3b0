/- The answers of a prover: what is stored, bounds, matches. Conditions: none. -/
import Derived.Test.YtmmplkgkkkjojaaGreatDoorE72
import Derived.Test.YtmmplkgkkkjojaaGreatDoorAm9
set_option linter.unusedSimpArgs false
set_option maxRecDepth 100000
set_option maxHeartbeats 4000000
set_option linter.unusedVariables false
namespace AM
open Bool renaming and_eq_true -> aKQ
open List renaming mem_filter -> aKR,length_filter_le -> aKS,filter_cons -> aKT,length_cons -> aKU,filter_sublist -> aKW
open Option renaming getD_some -> aKV
open Go Go.Proofs
open Enc (enc)
mutual
theorem adW:∀t:I,dI t=jt t
 |.mk n l=>by have:=adZ l;rw[dI,jt,this,Nat.add_comm]
theorem adZ:∀l:List I,kM l=oE l
 |[]=>rfl|t::r=>by have a:=adW t;have b:=adZ r;rw[kM,oE,a,b]
end
theorem ad4{b:Nat}:∀{l:List I},(∀t∈l,dI t<=b)->kM l<=l.length*b
 |[],_=>Nat.zero_le _|t::r,h=>by
  have a:=h t be;have c:=ad4 (l:=r) λx ah=>h x (by simp[ah]);rw[kM,aKU,Nat.succ_mul];omega
theorem ad9{v:Bool}:∀{n:Nat}{t:I},cD n t v=true->dI t<=5 ^ n
 |0,_,h=>by cases h|n+1,t,h=>by
  obtain⟨a,_,c,_⟩:=tZ h;have:=ad4 (b:=5 ^ n) λu d=>ad9 (c u d);have e:t.args.length*5 ^ n<=4*5 ^ n:=Nat.mul_le_mul_right _ a;have f:1<=5 ^ n:=Nat.one_le_pow _ _ am;rw[Ju,Nat.pow_succ];omega
variable {a:I}
theorem ax9(h:cD 4 a false=true):dI a<=M:=by
 have:=ad9 h;have b:M=1099511627776:=rfl;omega
variable {s:ak}
theorem ayd(h:eg s=true):(dM s||(fw s).isSome)=false:=by
 cases s with
 |nil=>cases h|cons c r =>
  unfold eg nE at h;simp only[hs,List.any_cons,List.any_nil,Bool.or_false,aKQ,decide_eq_true_eq]at h;have f:dM (c::r)=false:=by
   cases b:dM (c::r)with
   |false=>rfl|true =>
    unfold dM nE at b;simp only[hs,List.any_cons,List.any_nil,Bool.or_false,aKQ,decide_eq_true_eq]at b;omega
  have g:fw (c::r)=none:=by
   unfold fw;simp only;rw[if_neg];rintro⟨_,_,d⟩;rw[List.all_cons,aKQ]at d;have e:=d.1;unfold eZ at e;simp only[aKQ,decide_eq_true_eq]at e;omega
  rw[f,g];rfl
theorem ayq{n:Nat}{t:I}(h:cD (n+1) t false=true):zf t=false:=by
 cases b:zf t with
 |false=>rfl|true =>
  unfold zf at b;simp only[aKQ,decide_eq_true_eq]at b;have:=(tZ h).2.2.2.1 b.1 rfl b.2;rw[ayd b.2]at this;cases this
mutual
theorem aea:∀(t:I)(n:Nat)(s:List aY),cD n t false=true->oI t t s=(s,true)
 |.mk m l,0,s,h=>by cases h|.mk m l,n+1,s,h=>by
  have b:=(tZ h).2.2.1;rw[oI,ayq h,if_neg be,if_neg (by simp[I.args,I.name])];exact aeb l n s b
theorem aeb:∀(l:List I)(n:Nat)(s:List aY),(∀t∈l,cD n t false=true)->sT l l s=(s,true)
 |[],n,s,h=>rfl|t::r,n,s,h=>by
  rw[sT,aea t n s (h t be),cond_true];exact aeb r n s λx ah=>h x (by simp[ah])
end
theorem aec(h:cD 4 a false=true):(sU a a).2=true:=by
 unfold sU;rw[aea a 4 [] h,h];rfl
theorem aed(l:List aU):bz l=((l.map λr=>r.head.name).filter λs=>!(s==eG)).foldl (λa x=>nO ng x a) []:=by
 simp[bz,tH,Ss]
variable {l:List aU}
theorem aee{x:ak}:x∈bz l↔(∃r∈l,r.head.name=x)/\x≠eG:=by
 rw[aed,(GS GQ Sq _ [] List.Pairwise.nil).2];simp[aKR]
theorem aef(l:List aU):y2 ng (bz l):=by
 rw[aed];exact(GS GQ Sq _ [] List.Pairwise.nil).1
theorem aeg{l:List ak}(h:y2 ng l):l.Nodup:=h.imp λ{a b}c he=>by
 rw[he,GQ.irrefl]at c;cases c
theorem aeh(l:List aU):(bz l).length<=l.length:=by
 have h:=List.Nodup.length_le_of_subset (aeg (aef l)) λx ah=>(show x∈l.map λr=>r.head.name from by
  obtain⟨⟨r,b,e⟩,_⟩:=aee.1 ah;exact List.mem_map.2 ⟨r,b,e⟩)
 simpa using h
theorem ayz(h:hG l=0):∀r∈l,fK r=0:=λr c=>by
 unfold hG at h;split at h
 ·cases h
 ·cases b:l.find? λr=>!(fK r==0)with
  |none =>
   have:=List.find?_eq_none.1 b r c;simpa using this
  |some s =>
   rw[b]at h;have:=List.find?_some b;simp only[Option.map_some,aKV]at h;rw[h]at this;simp at this
theorem ayK{r:aU}(h:fK r=0):ot r.head.name=false:=by
 have b:kj r.head true=0:=by
  unfold fK at h;split at h
  ·cases h
  ·split at h
   ·omega
   ·rename_i f;have d:kG (dx r) true=0:=by simpa using f
    rw[dx,kG]at d;split at d
    ·assumption
    ·assumption
 cases c:ot r.head.name with
 |false=>rfl|true =>
  unfold ot at c;simp only[Bool.or_eq_true,beq_iff_eq]at c;unfold kj at b;have fin:∀k:gE,ln r.head.name=some k->k.head=false->true=false:=λk hk g=>by
   rw[hk]at b;simp only[g]at b;split at b
   ·cases b
   ·split at b
    ·cases b
    ·split at b
     ·cases b
     ·simp at b
  rcases c with e|e
  ·exact fin ⟨[116,114,117,101],1,false,true⟩ (by rw[e];rfl) rfl
  ·exact fin ⟨[100,111,101,115],2,false,true⟩ (by rw[e];rfl) rfl
theorem aei(h:jU l=0):hG l=0/\(AZ l).isNone=false:=by
 unfold jU at h;split at h
 ·rename_i b;exact absurd h b
 ·rename_i b;split at h
  ·cases h
  ·rename_i c;refine⟨by simpa using b,?_⟩;cases d:(AZ l).isNone with
   |false=>rfl|true=>exact absurd d c
variable {n:ak}
theorem ay3(h:hG l=0)(b:n∈bz l):ot n=false:=by
 obtain⟨⟨r,c,rfl⟩,_⟩:=aee.1 b;exact ayK (ayz h r c)
theorem NW(h:A0 a=true):ot a.name=true:=by
 unfold A0 at h;unfold ot;simp only[aKQ,Bool.or_eq_true]at h ⊢;rcases h.1 with h|h
 ·exact .inl h.1
 ·exact .inr h.1
theorem ay4:oC []=([],0):=by rfl
theorem ay5(g:List I):iz [] g=if rO g then some (fx g,0)else some ([],13):=by
 unfold iz;rw[if_neg f8,ay4,if_neg be];cases rO g<;>rfl
variable {q:bp}{A L:List I}
theorem aej(b:List ak)(h:rV q A b s=some L):q.st s=some L:=by
 have key:∀(b:List ak)(st:ak->Option (List I)),b.foldl (λst rel=>if fh (gr A rel) (gr q.given rel)==0 then st else rC q.rules st rel) st s=some L->st s=some L:=λb=>by
  induction b with
  |nil=>intro st h;exact h|cons r b ih =>
   intro st h;have:=ih _ h;simp only at this;split at this
   ·exact this
   ·unfold rC at this;split at this
    ·cases this
    ·exact this
 exact key b q.st h
theorem fU.new(h:hG l=0)(hd:∀r∈l,∀a∈dx r,cc a<=1000000):fU (iB l):=by
 obtain⟨b,c⟩:=xi h;have e:=aI0 l;have f:=aI1 l;have g:=aIZ b λr d=>(c r d).b;have i:=aeh l;exact⟨by simp only[iB];omega,by simp only[iB];omega,by simp only[iB];omega,by simp[iB],λs L ax=>(by cases ax),by simp[iB],hd⟩
theorem fU.set(h:fU q)(cE:A.length<=100000):fU (mi q A) :=
 ⟨h.e,h.h,h.r,cE,λs L ax=>h.l s L (aej Be ax),h.w,h.d⟩
variable {ns:List ak}
theorem fU.put(h:fU q)(cE:A.length<=100000){w:Nat}(b:w<=1000000000000):fU ⟨q.rules,q.given,hI A q.st ns,w⟩ :=
 ⟨h.e,h.h,h.r,h.g,λs L ax=>by
  simp only[hI]at ax;split at ax
  ·simp only[Option.some.injEq]at ax;have:=aKS (λa:I=>a.name==s) A;rw[<-ax];omega
  ·exact h.l s L ax,b,h.d⟩
variable {g:List I}{st:ak->Option (List I)}
theorem ay6 :∀{ns:List ak},ns.Nodup->(∀n∈ns,st n=some (A.filter λa=>a.name==n))->jK st g ns=g.length+(A.filter λa=>ns.contains a.name).length:=λ{ns}=>by
 have key:∀(ns:List ak)(k:Nat),ns.Nodup->(∀n∈ns,st n=some (A.filter λa=>a.name==n))->ns.foldl (λk n=>k+((st n).getD []).length) k=k+(A.filter λa=>ns.contains a.name).length:=λns=>by
  induction ns with
  |nil=>intro k _ _;simp|cons n ns ih =>
   intro k h ax;obtain⟨i,j⟩:=List.nodup_cons.1 h;rw[List.foldl_cons,ih _ j λx ah=>ax x (by simp[ah]),ax n be,aKV];have c:∀B:List I,(B.filter λa=>(n::ns).contains a.name).length=(B.filter λa=>a.name==n).length+(B.filter λa=>ns.contains a.name).length:=λB=>by
    induction B with
    |nil=>rfl|cons b B d =>
     by_cases ae:b.name=n
     ·have e:(n::ns).contains b.name=true:=by simp[ae]
      have m:ns.contains b.name=false:=by rw[ae];simpa using i
      have f:(b.name==n)=true:=by simp[ae]
      rw[aKT,aKT,aKT,e,m,f,if_pos rfl,if_pos rfl,if_neg be,aKU,aKU,d];omega
     ·have f:(b.name==n)=false:=by simpa using ae
      have e:(n::ns).contains b.name=ns.contains b.name:=by
       rw[Bool.eq_iff_iff];simp[ae]
      rw[aKT,aKT,aKT,e,f];cases ns.contains b.name with
      |true=>rw[if_pos rfl,if_neg be,if_pos rfl,aKU,aKU,d];omega|false=>rw[if_neg be,if_neg be,if_neg be,d]
   rw[c];omega
 exact key ns _
theorem azt(d:ns.Nodup)(ax:∀n∈ns,st n=some (A.filter λa=>a.name==n))(cE:A.Nodup)(f:g.Nodup)(c:∀a∈g,a∈A)(h:∀a∈g,a.name∉ns):jK st g ns<=A.length:=by
 rw[ay6 d ax,<-List.length_append];refine List.Nodup.length_le_of_subset ?_ λa aG=>?_
 ·rw[List.nodup_append];refine⟨f,cE.sublist aKW,λa aG b ae e=>?_⟩;subst e;have:=(aKR.1 ae).2;exact h a aG (by simpa using this)
 ·rcases List.mem_append.1 aG with aG|aG
  ·exact c a aG
  ·exact(aKR.1 aG).1
theorem azv(h:∀n∈ns,(st n).isSome=true):b2 st ns=0:=by
 unfold b2;rw[List.length_eq_zero_iff,List.filter_eq_nil_iff];intro n b;have:=h n b;cases ax:st n with
 |none=>rw[ax]at this;cases this|some x=>simp
theorem azw(l:List aU)(s:ak):(oq l (bz l) s).Nodup:=(aeg (aef l)).sublist aKW
theorem aek(h:jo L)(p:I):jo (gU L p):=h.sublist aKW
variable {p:I}
theorem Hr :a∈gU L p↔a∈L/\(sU p a).2=true:=aKR
theorem azx(h:hG l=0)(b:n∈oq l (bz l) s):ot n=false:=ay3 h (aKR.1 b).1
theorem azy(z:hG l=0)(cf:kb l g=some true)(E:rO g=true)(hd:∀r∈l,∀a∈dx r,cc a<=1000000)(p:I) :
  ∃d L e,hx (mi (iB l) (fx g)) p=some (d,L,e)/\fU d/\(e≠0->L=[])/\L.length<=1000/\(e=0->jo L/\∀a∈L,(sU p a).2=true/\cD 4 a false=true/\∃F,hx d a=some (d,F,0)/\F≠[]/\F.length<=1000):=by
 obtain⟨o2,o⟩:=aHa E;have G:∀a∈g,A0 a=true:=by
  simp only[rO,aKQ,List.all_eq_true]at E;exact E.2
 obtain⟨A,C,cE⟩:=aJ0 (λr H=>(xi z).2 r H) o cf;have qi:=Kf g;obtain⟨i,J⟩:∃i,i=fx g:=⟨_,rfl⟩;have B:∀a,a∈i↔a∈g:=λa=>by rw[J];exact rI _ _
 have vv:jo i:=J▸wZ g;rw[<-J]at qi ⊢;have ae:=(fU.new z hd).set (A:=i) am;obtain⟨c,t⟩:∃c,c=mi (iB l) i:=⟨_,rfl⟩;have K:c.rules=l:=by rw[t];rfl
 have j:c.given=i:=by rw[t];rfl
 have fe:∀s,c.st s=none:=λs=>by
  cases h:c.st s with
  |none=>rfl|some L=>rw[t]at h;have:=aej Be h;cases this
 have nz:c.work=0:=by rw[t];rfl
 rw[<-t]at ae ⊢;have qj:∀a:I,cD 4 a false=true->dM a.name=true->ug a=true:=λa u O=>by
  rw[ug,RI u,O];rfl
 unfold hx;cases ar:ug p with
 |false=>exact⟨_,_,_,rfl,ae,λ_=>rfl,be,λh=>d7⟩|true =>
 simp only[Bool.not_true,Bool.false_eq_true,if_false];cases wY:ot p.name with
 |true =>
  rw[if_pos rfl];refine⟨_,_,_,rfl,ae,λh=>absurd rfl h,?_,λ_=>⟨aek (by rw[j];exact vv) _,λa aG=>?_⟩⟩
  ·have:=aKS (λa=>(sU p a).2) c.given;rw[j]at this ⊢;unfold gU;omega
  ·obtain⟨f,P⟩:=Hr.1 aG;rw[j,B]at f;have k:=o a f;have Q:=NW (G a f);have R:dM a.name=true:=by
    unfold ot at Q;simp only[Bool.or_eq_true,beq_iff_eq]at Q;rcases Q with e|e<;>rw[e]<;>decide
   refine⟨P,k,gU c.given a,?_,?_,?_⟩
   ·rw[qj a k R,NW (G a f)];rfl
   ·intro e;have:a∈gU c.given a:=Hr.2 ⟨by rw[j,B];exact f,aec k⟩;rw[e]at this;cases this
   ·have:=aKS (λb=>(sU a b).2) c.given;rw[j]at this ⊢;unfold gU;omega
 |false =>
  rw[if_neg be,K];obtain⟨ns,v⟩:∃ns,ns=oq l (bz l) p.name:=⟨_,rfl⟩;have pB:ns.Nodup:=v▸azw l p.name;rw[<-v];have ais:b2 c.st ns<=100000:=by
   have u:b2 c.st ns<=ns.length:=aKS _ _;have O:=Lw l (bz l) p.name;have an:=aeh l;have a6:=(xi z).1;rw[<-v]at O;omega
  by_cases ef:0<b2 c.st ns\/512<jK c.st c.given ns
  ·obtain⟨S,e,T,V,W⟩:=Wf C (l:=lF l ns) (λr H=>(aKR.1 H).1) (g:=i) (λa aG=>cE a ((B a).1 aG));have Dk:S.length<=1000:=Nat.le_trans (List.Nodup.length_le_of_subset (K1 V) W) C.n;have iH:nQ c ns=if e=0 then some (⟨c.rules,c.given,hI S c.st ns,c.work+b2 c.st ns⟩,0)else some (c,e):=by
    unfold nQ;rw[if_pos ef,K,j,T]
   rw[iH];by_cases he:e=0
   ·subst he;rw[if_pos rfl];obtain⟨d,w⟩:∃d:bp,d=⟨c.rules,c.given,hI S c.st ns,c.work+b2 c.st ns⟩:=⟨_,rfl⟩;have dX:fU d:=w▸ae.put (A:=S) am am;have f1:d.rules=l:=by rw[w];exact K
    have f2:d.given=i:=by rw[w];exact j
    have m:∀s,d.st s=if ns.contains s then some (S.filter λa=>a.name==s)else none:=λs=>by
     rw[w];simp only[hI];rw[fe]
    rw[<-w];simp only[ne_eq,not_true_eq_false,if_false];have iQ:∀s,((d.st s).getD []).length<=1000:=λs=>by
     rw[m];split
     ·have:=aKS (λa:I=>a.name==s) S;rw[aKV];omega
     ·simp
    have rk:∀(s:ak)(b:I),(gU ((d.st s).getD []) b).length<=1000:=λs b=>by
     have:=aKS (λa=>(sU b a).2) ((d.st s).getD []);have:=iQ s;unfold gU;omega
    refine⟨_,_,_,rfl,dX,λh=>absurd rfl h,rk _ _,λ_=>⟨?_,λa aG=>?_⟩⟩
    ·rw[m];split
     ·exact aek (V.sublist aKW) p
     ·exact List.Pairwise.nil
    ·obtain⟨f,P⟩:=Hr.1 aG;rw[m]at f;have D:ns.contains p.name=true:=by
      cases D:ns.contains p.name with
      |true=>rfl|false=>rw[D]at f;cases f
     rw[D,if_pos rfl,aKV]at f;obtain⟨x,Oj⟩:=aKR.1 f;have y:a.name=p.name:=by simpa using Oj
     obtain⟨aq,-,X,-⟩:=ab2 T;obtain⟨Y,Z⟩:=wK T;have k:=aq a x;have aKl:b2 d.st ns=0:=azv λn aI=>by
      rw[m,show ns.contains n=true by simpa using aI];rfl
     have wS:jK d.st d.given ns<=512:=by
      rw[f2];refine Nat.le_trans (azt pB (λn aI=>by rw[m,show ns.contains n=true by simpa using aI];rfl) (K1 V) (K1 vv) X λb ae n9=>?_) Y;have u:=NW (G b ((B b).1 ae));rw[azx z (v▸n9)]at u;cases u
     refine⟨P,k,gU ((d.st a.name).getD []) a,?_,?_,rk _ _⟩
     ·rw[qj a k (Z a x),y,wY,f1,<-v];have:nQ d ns=some (d,0):=by
       unfold nQ;rw[if_neg am]
      rw[this];rfl
     ·intro e;have:a∈gU ((d.st a.name).getD []) a:=Hr.2 ⟨by rw[m,y,D,if_pos rfl];exact f,aec k⟩;rw[e]at this;cases this
   ·rw[if_neg he];simp only[ne_eq,he,not_false_eq_true,if_true];exact⟨_,_,_,rfl,ae,λ_=>rfl,be,λh=>absurd h he⟩
  ·have iH:nQ c ns=some (c,0):=by unfold nQ;rw[if_neg ef]
   rw[iH];simp only[ne_eq,not_true_eq_false,if_false,fe,Option.getD_none];exact⟨_,_,_,rfl,ae,λh=>absurd rfl h,by simp[gU],λ_=>⟨List.Pairwise.nil,λa aG=>by cases aG⟩⟩
theorem fU.ask{b:bp}{e:Nat}(h:fU q)(i:q.work+(bz q.rules).length<=1000000000000)(de:hx q p=some (b,L,e)):fU b/\b.rules=q.rules/\b.given=q.given/\b.work<=q.work+(bz q.rules).length:=by
 have ax:fU q/\q.rules=q.rules/\q.given=q.given/\q.work<=q.work+(bz q.rules).length:=⟨h,rfl,rfl,am⟩;have iH:∀ns,ns.length<=(bz q.rules).length->∀x,nQ q ns=some x->fU x.1/\x.1.rules=q.rules/\x.1.given=q.given/\x.1.work<=q.work+(bz q.rules).length:=λns j x ah=>by
  unfold nQ at ah;split at ah
  ·split at ah
   ·cases ah
   ·rename_i A k c;split at ah
    ·rename_i d;subst d;cases ah;have hm:b2 q.st ns<=ns.length:=aKS _ _;exact⟨h.put (A:=A) (by have:=(wK c).1;omega) am,rfl,rfl,ap⟩
    ·cases ah;exact ax
  ·cases ah;exact ax
 unfold hx at de;split at de
 ·cases de;exact ax
 ·split at de
  ·cases de;exact ax
  ·split at de
   ·cases de
   ·rename_i m o f;have:=iH _ (Lw q.rules (bz q.rules) p.name) _ f;split at de<;>(cases de;exact this)
theorem aen(H:List ay)(l:List aU):∃(r:AV)(H':List ay),G1 l H r H':=by
 by_cases h:jU l=0
 ·refine⟨_,H++[.map 0 (cI gC []),.cells (iC true H.length (iB l))],.inr ⟨h,rfl,⟨be,λj b _=>dE b⟩,am,⟨true,fs rfl⟩,⟨0,[],e5 rfl,List.nodup_nil,λs=>rfl⟩,λs ax=>by cases ax⟩⟩
 ·exact⟨_,H,.inl ⟨h,rfl,rfl⟩⟩
variable {H:List ay}{id mid:Nat}
theorem azE(h:bm H id mid q)(A:List I)(b:List ak):∃H',mq (λi=>i=id\/i=mid) H H'/\bm H' id mid ⟨q.rules,q.given,rV q A b,q.work⟩:=by
 have key:∀k,k<=b.length->∃H',mq (λi=>i=id\/i=mid) H H'/\bm H' id mid ⟨q.rules,q.given,rV q A (b.take k),q.work⟩:=λk=>by
  induction k with
  |zero=>exact λ_=>⟨H,mq.refl _ _,h⟩|succ k ih =>
   intro hk;obtain⟨H',c,d⟩:=ih am;rw[bL hk,ada];split
   ·exact⟨H',c,d⟩
   ·obtain⟨_,e,-,f,j⟩:=adb d b[k]!;exact⟨e,c.trans f,j⟩
 have:=key b.length (Nat.le_refl _);rwa[List.take_length]at this
theorem azW(h:bm H id mid q)(A:List I)(e:Nat):∃(r:AV)(H':List ay),mq (λi=>i=id\/i=mid) H H'/\if e=0 then r=.int .i64 0/\bm H' id mid (mi q A)else r=.int .i64 13/\H'=H:=by
 by_cases he:e=0
 ·obtain⟨c,d,b⟩:=azE h A Be;obtain⟨t,aE⟩:=b.o;obtain⟨jd,m,hm,f,k⟩:=b.m;have bc:=dq aE;refine⟨.int .i64 0,c.set id (.cells (iC false mid (mi q A))),d.trans ⟨be,λj u o=>cj λe=>o (.inl e.symm)⟩,?_⟩;rw[if_pos he];exact⟨rfl,h.ne,⟨false,dV bc⟩,⟨jd,m,by rw[cj h.ne];exact hm,f,k⟩,b.k⟩
 ·exact⟨.int .i64 13,H,mq.refl _ _,by rw[if_neg he];exact⟨rfl,rfl⟩⟩
end AM
