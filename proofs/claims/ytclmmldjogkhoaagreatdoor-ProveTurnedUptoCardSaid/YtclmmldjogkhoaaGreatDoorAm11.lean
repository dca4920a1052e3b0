/- An abstract machine, and what of the given program it does, part 12. Conditions: none. -/
import Derived.Test.YtclmmldjogkhoaaGreatDoorAm10
import Derived.RangeFuncFrom
import Derived.TacticsIn
set_option linter.unusedVariables false
namespace AM
open Bool renaming and_eq_true -> I9
open Array renaming getD_eq_getD_getElem? -> Ja,getElem?_eq_some_iff -> LW
open Go
section
variable {P:Program}{gl:cp}{N:Nat}{g g':bo}{s s':an}{a:Act}{w w':World}{F:Fence}{n:Nat}{Q:Exit->Act->World->Prop}{ops:Array Oper}{rest:List Oper}{o:Oper}
def A0(gl:cp):List cz->an->Option an
 |[],s=>some s|o::r,s=>(aH gl s o).bind (A0 gl r)
def ig(o:Oper):Bool:=o.guard.isNone&&(match o.op with|.defer _=>false|_=>true)
def sA(P:Program)(N:Nat):List Oper->List cz->Bool
 |[],[]=>true|o::os,lA::A1=>ig o&&j7 P N o lA&&sA P N os A1|_,_=>false
def alV(os:List Oper)(a ch:Act):Prop:=∀t,(∀o∈os,o.dst≠some t)->ch.tmps[t]?=a.tmps[t]?
theorem ve{ys:Nat->Option Bool}(h:ig o=true):Region.wanted o ys=true:=by
 simp only[ig,I9,Option.isNone_iff_eq_none]at h;simp[Region.wanted,h.1]
theorem vf(h:ig o=true):∀c,o.op≠.defer c:=by
 intro c b;simp only[ig,I9,b]at h;cases h.2
theorem rA(v:Value)(t:Nat)(h:o.dst≠some t):(a.put o.dst v).tmps[t]?=a.tmps[t]?:=by
 cases aA:o.dst with
 |none=>rfl|some d =>
  simp only[Act.put];rw[Array.getElem?_setIfInBounds_ne (fun e=>h (by rw[aA,e]))]
theorem A2(d:∀f,F.fn f)(ao:ig o=true)(h:dR P gl N o g a w s')
  (K:∀v w' g',ef g w g' w'->Rel P gl N g' s' (a.put o.dst v) w'->wpListIn F n P ops Q rest (a.put o.dst v) w'):wpListIn F n P ops Q (o::rest) a w:=by
 obtain⟨v,w',g',b,c,U⟩:=h;unfold wpListIn;rw[if_pos (ve ao)];refine⟨fun f _=>d f,?_⟩;rw[Oper.semAt_eq _ _ _ (vf ao)];rcases b with b|⟨b,rfl⟩
 ·rw[b];exact K v w' g' c U
 ·rw[b];exact K _ w' g' c U
theorem TT(e:∀f,F.fn f):∀(os:List Oper)(c:List cz){g:bo}{s:an}{a:Act}{w:World},sA P N os c=true->Rel P gl N g s a w->A0 gl c s=some s' ->
  (∀g' d w',ef g w g' w'->Rel P gl N g' s' d w'->alV os a d->wpListIn F n P ops Q rest d w')->wpListIn F n P ops Q (os++rest) a w
 |[],[],g,s,a,w,_,h,he,K=>by
  simp only[A0,Option.some.injEq]at he;subst he;exact K g a w (ef.refl _ _) h (fun _ _=>rfl)
 |[],_::_,_,_,_,_,b,_,_,_=>by simp[sA]at b|_::_,[],_,_,_,_,b,_,_,_=>by simp[sA]at b|o::os,B::c,g,s,a,w,b,h,he,K=>by
  simp only[sA,I9]at b;obtain⟨⟨ao,aA⟩,j⟩:=b;simp only[A0]at he;obtain⟨C,k,U⟩:=bind_some he;refine A2 e ao (u5 h aA k) fun v w' g' l m=>?_;refine TT e os c j m U fun p q r u x y=>K p q r (l.trans u) x fun t i=>?_;rw[y t (fun z A=>i z (by simp[A])),rA v t (i o (by simp))]
def tC:cp:=fun _=>none
def oa(bj bi:Nat):bo:=⟨fun _ _=>none,fun b=>if b=bj then .bA 0 else if b=bi then .bA 1 else .none,fun id=>if id=0 then some bj else if id=1 then some bi else none⟩
def eV:AV->Bool|.bool _=>true|_=>false
variable {x:AV}{v:Value}
theorem bb.G2(ah:eV x=true)(h:bb g x v)(g':bo):bb g' x v:=by
 cases x<;>simp[eV]at ah;have:=h.nV;subst this;exact .pure _ _ (.bool _)
theorem L3(ah:eV x=true):cP x:=by
 cases x<;>simp[eV]at ah;exact oH _
variable {id b m:Nat}{es:List (AV×AV)}
theorem mz.to{c:Nat}(h:mz P g w id b m es)(j:∀e∈es,eV e.2=true)(k:g'.bD b=.bA c):mz P g' w c b m es:=by
 obtain⟨arr,l,B,⟨cX,d,p,q⟩,r,t,u,y⟩:=h;refine⟨arr,l,k,⟨cX,d,p,fun i e m he hm=>?_⟩,r,t,u,y⟩;obtain⟨z,f,A,C⟩:=q i e m he hm;have ae:=j e (d.mem_iff.1 (List.mem_of_getElem? he));exact⟨.pure _ _ (bb.hD f z),f,A.G2 ae g',(L3 ae).gb⟩
def A3(bj:Nat):bo:=⟨fun _ _=>none,fun b=>if b=bj then .bA 0 else .none,fun id=>if id=0 then some bj else none⟩
variable {t:Nat}
theorem alW(h:mz P g w id b m es)(c:∀e∈es,eV e.2=true)(aE:a.tmps.size=N)(hd:a.defers=[])(d:a.tmps[t]?=some (.map (some b))) :
  Rel P tC N (A3 b) ⟨[(t,.v (.map 0))],[.map m es]⟩ a w:=by
 have ae:b<w.heap.size:=by obtain⟨arr,f,_⟩:=h;exact(LW.1 f).1
 refine⟨by simp,aE,hd,fun u e he=>?_,fun i bA aA=>?_,(fun _ _ _ h=>by cases h),fun k hk=>?_,(fun _ _ h=>by cases h),fun i k hk=>?_⟩
 ·simp only[Env.get]at he;split at he
  ·rename_i j;subst j;simp at he;subst he;exact⟨_,d,.map 0 b (by simp[A3]),.lU (by simp)⟩
  ·cases he
 ·cases i with
  |zero=>simp at aA;subst aA;exact⟨b,by simp[A3],h.to c (by simp[A3])⟩|succ i=>simp at aA
 ·simp only[A3]at hk;split at hk
  ·rename_i e;subst e;exact ae
  ·exact absurd rfl hk
 ·simp only[A3]at hk;split at hk
  ·rename_i e;subst e;simp
  ·cases hk
structure oZ(P:Program)(w:World)(bj bi m:Nat)(es:List (AV×AV))(seen:List AV):Prop where
 ne:bi≠bj
 mp:mz P (oa bj bi) w 0 bj m es
 it:∃o,w.heap[bi]?=some o/\pw (oa bj bi) w m seen (some 0) o
variable {bj bi:Nat}{seen:List AV}
theorem oZ.of(h:Rel P gl N g s a w)(l:∀e∈es,eV e.2=true)(p:s.heap[0]?=some (.map m es))(q:s.heap[1]?=some (.iter (some 0) m seen))
  (ae:g.b4 0=some bj)(ak:g.b4 1=some bi):oZ P w bj bi m es seen:=by
 obtain⟨b,f,k⟩:=h.heap 0 _ p;rw[ae]at f;simp at f;subst f;obtain⟨B,o,i,c,C,d⟩:=h.heap 1 _ q;rw[ak]at i;simp at i;subst i;have cc:bi≠bj:=by
  rintro rfl;obtain⟨arr,r,_⟩:=k;rw[r]at c;simp at c;subst c;simp[pw]at d
 refine⟨cc,k.to l (by simp[oa]),o,c,?_⟩;cases o<;>simp only[pw]at d;rename_i mp D E last;cases mp with
 |none=>exact d.elim|some G =>
  obtain⟨j,H,u,y,z,A⟩:=d;rw[ae]at j;simp at j;subst j;exact⟨by simp[oa],by simp[oa],u,y,z,A⟩
theorem oZ.keeps(h:oZ P w bj bi m es seen)(q:∀e∈es,eV e.2=true)(hk:KeepsWalks w w'):oZ P w' bj bi m es seen:=by
 obtain⟨cc,hm,o,aA,d⟩:=h;have f:w'.heap[bj]?=w.heap[bj]?:=by obtain⟨arr,c,_⟩:=hm;rw[c];exact hk.same _ _ c rfl
 cases o<;>simp only[pw]at d;rename_i mp U V last;have r:w'.heap[bi]?=w.heap[bi]?:=by rw[aA];exact hk.same _ _ aA rfl
 cases mp with
 |none=>exact d.elim|some u =>
  obtain⟨j,y,z,A,B,arr,k,C,l⟩:=d;have D:u=bj:=by simp[oa]at j;exact j.symm
  subst D;refine⟨cc,?_,_,r.trans aA,j,y,z,A,B.kept f,arr,k,f.trans C,l⟩;obtain⟨arr,c,E,⟨cX,p,G,H⟩,J,K,L,O⟩:=hm;refine⟨arr,f.trans c,E,⟨cX,p,G,fun i e m he hm=>?_⟩,J,K,L,O⟩;obtain⟨R,S,T,W⟩:=H i e m he hm;exact⟨R,S,T,(L3 (q e (p.mem_iff.1 (List.mem_of_getElem? he)))).gb⟩
theorem oZ.rel(h:oZ P w bj bi m es seen)(aE:a.tmps.size=N)(hd:a.defers=[])(d:a.tmps[t]?=some (ptrTo bi 0)) :
  Rel P tC N (oa bj bi) ⟨[(t,.v (.ptr 1 0))],[.map m es,.iter (some 0) m seen]⟩ a w:=by
 obtain⟨cc,hm,o,aA,f⟩:=h;have ae:bj<w.heap.size:=by obtain⟨arr,j,_⟩:=hm;exact(LW.1 j).1
 have ak:bi<w.heap.size:=(LW.1 aA).1;refine⟨by simp,aE,hd,fun u e he=>?_,fun i bA c=>?_,(fun _ _ _ h=>by cases h),fun k hk=>?_,(fun _ _ h=>by cases h),fun i k hk=>?_⟩
 ·simp only[Env.get]at he;split at he
  ·rename_i l;subst l;simp at he;subst he;exact⟨_,d,.ptr 1 0 bi (by simp[oa]),.lU (by simp)⟩
  ·cases he
 ·match i,c with
  |0,c=>simp at c;subst c;exact⟨bj,by simp[oa],hm⟩|1,c=>simp at c;subst c;exact⟨bi,o,by simp[oa],aA,by simp[oa,cc],f⟩|i+2,c=>simp at c
 ·simp only[oa]at hk;split at hk
  ·rename_i e;subst e;exact ae
  ·grind
 ·simp only[oa]at hk;split at hk
  ·rename_i e;subst e;simp
  ·grind
def L4(w:World)(bi:Nat):Nat:=match w.heap[bi]? with|some (.mapIter _ _ gH _)=>gH.size|_=>0
theorem oZ.TU(h:oZ P w bj bi m es seen):L4 w bi=seen.length:=by
 obtain⟨cc,hm,o,aA,c⟩:=h;cases o<;>simp only[pw]at c;rename_i mp e f last;cases mp with
 |none=>exact c.elim|some i =>
  obtain⟨j,k,l,p,⟨L,q,r,d,_⟩,_⟩:=c;simp[L4,aA,d]
def L5:Op->Bool|.move (.tmp t)=>t==0|_=>false
def L6:Op->Bool
 |.call c=>(match c.callee with|.value (.tmp t)=>t==10|_=>false)&&(match c.args.toList with|[.tmp t]=>t==11|_=>false)|_=>false
def G3(P:Program)(N:Nat):List Oper->Bool
 |[aO,x1]=>ig aO&&wE P N aO 4 (.t 1) 1 false&&ig x1&&j7 P N x1 (.q5 5 (.t 4))|_=>false
def Dm(P:Program)(N:Nat):List Oper->Bool
 |[x2,x3]=>ig x2&&Gi N x2 6 (.t 5)&&ig x3&&j7 P N x3 (.ext 7 6 0)|_=>false
def Dn(P:Program)(N:Nat)(iQ:cz):List Oper->Bool
 |[kO,cU,ej,fs]=>ig kO&&cB N kO 10&&L5 kO.op&&ig cU&&j7 P N cU iQ&&ig ej&&cB N ej 12&&L6 ej.op&&ig fs&&j7 P N fs (.po 13 (.t 12))|_=>false
def ob(t:Nat)(l:List Oper):Bool:=l.all fun o=>o.dst != some t
def A4(P:Program)(N:Nat)(pre:List cz)(iQ:cz):Code->Bool
 |.seq (.region _ A5 false) (.block o0 (.loop (.seq (.region _ ln false) (.seq (.cond (.tmp t7) .skip (.exit TV)) (.block _ (.seq (.region _ iL false) (.seq (.region _ lG false) (.cond (.tmp t13) .ret .skip)))))))) =>
  TV==o0&&t7==7&&t13==13&&decide (13<N)&&G3 P N A5.toList&&Dm P N ln.toList&&sA P N iL.toList ([.nR 8 (.t 5),.ext 9 8 0]++pre)&&Dn P N iQ lG.toList &&
   ob 0 A5.toList&&ob 0 ln.toList&&ob 0 iL.toList&&ob 0 lG.toList&&ob 5 ln.toList&&ob 5 iL.toList&&ob 5 lG.toList&&ob 10 ((lG.toList.drop 1).take 1)
 |_=>false
theorem alY{l:Nat}{x:Value}{r:Next}{w':World}(aA:L6 o.op=true)(e:a.tmps[10]?=some (.func (.yield l) #[] #[]))(f:a.tmps[11]?=some x)
  (h:(Instr.yield l #[x]).run P w=.ok r w'):(execOp a.eval o).run P w=.ok r w':=by
 unfold L6 at aA;split at aA
 ·rename_i c i;simp only[I9]at aA;obtain⟨U,d⟩:=aA;split at U
  ·rename_i t j;split at d
   ·rename_i u k;simp only[beq_iff_eq]at U d;subst U d;have p:a.eval (.tmp 10)=.func (.yield l) #[] #[]:=by simp[Act.eval,Ja,e]
    have q:c.args.map a.eval=#[x]:=by
     apply Array.ext';simp[k,Act.eval,Ja,f]
    simp only[execOp,i,resolve,j,p,q,Deferred.ofValue,Sem.run_bind,Sem.run_pure,Result.andThen_ok,invoke];simpa using h
   ·cases d
  ·cases U
 ·cases aA
theorem alZ(aA:L5 o.op=true)(c:a.tmps[0]?=some v):(execOp a.eval o).run P w=.ok (.value v) w:=by
 unfold L5 at aA;split at aA
 ·rename_i t d;simp only[beq_iff_eq]at aA;subst aA;simp[execOp,d,Act.eval,Ja,c]
 ·cases aA
end
section
variable {P:Program}{gl:cp}{N:Nat}{g g':bo}{s s':an}{a:Act}{w w':World}{F:Fence}{n:Nat}{Q:Exit->Act->World->Prop}{ops:Array Oper}{rest:List Oper}{o:Oper}
def g0:bo:=⟨fun _ _=>none,fun _=>.none,fun _=>none⟩
def tD(w:World):bo:=⟨fun _ _=>none,fun b=>if b<w.heap.size then .outer else .none,fun _=>none⟩
theorem grown_of(h:ef (tD w) w g' w'):w.grownBy w' none :=
 ⟨congrArg Prod.fst h.os,congrArg Prod.snd h.os,h.out,h.size,fun k hk _=>(h.outer k (by simp[tD,hk])).2.1⟩
theorem Dp(aE:a.tmps.size=N)(hd:a.defers=[]){e:List (Nat×AV)}(az:e.Pairwise fun p q=>p.1<q.1)(he:∀p∈e,∃v,a.tmps[p.1]?=some v/\bb (tD w) p.2 v/\cP p.2) :
  Rel P tC N (tD w) ⟨e.map fun p=>(p.1,.v p.2),[]⟩ a w:=by
 refine⟨by rw[List.pairwise_map];exact az,aE,hd,fun t x ah=>?_,fun i bA aA=>by simp at aA,(fun _ _ _ h=>by cases h),fun b ae=>?_,(fun _ _ h=>by cases h),(fun _ _ h=>by cases h)⟩
 ·have:=Env.se ah;obtain⟨p,ao,c⟩:=List.mem_map.1 this;simp only[Prod.mk.injEq]at c;obtain⟨rfl,rfl⟩:=c;obtain⟨v,d,U,f⟩:=he p ao;exact⟨v,d,U,f.gb⟩
 ·by_cases h:b<w.heap.size
  ·exact h
  ·simp[tD,h]at ae
def rB(pre:List cz)(iQ:cz)(k:AV):Prop :=
 ∃s2,A0 tC pre ⟨[(9,.v k)],[]⟩=some s2/\eH s2.env 10=true/\∃jj,aH tC { s2 with env:=s2.env.del 10 } iQ=some jj/\jj.env.get 11=some (.v k)
theorem al0(s:List UInt8):rB [.ho 3 (.t 9)] (.ho 11 (.t 3)) (.str s):=⟨_,rfl,rfl,_,rfl,rfl⟩
theorem al1(z cs:List AV)(k:z.length=3)(d:cs.length=3)(h:∀c∈cs,(match c with|.str _|.int _ _|.bool _=>true|_=>false)=true):rB [.alloc 3 z,.st 3 (.t 3) (.t 9)] (.ld 11 (.t 3) 3 true) (.agg cs):=by
 match z,cs,k,d with
 |[z0,q,z2],[b,c1,c2],_,_ =>
  have e:∀c∈[b,c1,c2],c.one=true/\c.aW=c:=fun c d=>by
   have:=h c d;cases c<;>simp at this<;>exact⟨rfl,rfl⟩
  obtain⟨l,f⟩:=e b (by simp);obtain⟨m,i⟩:=e c1 (by simp);obtain⟨p,j⟩:=e c2 (by simp);refine⟨⟨[(3,.b [b,c1,c2]),(9,.v (.agg [b,c1,c2]))],[]⟩,?_,rfl,⟨[(3,.b [b,c1,c2]),(9,.v (.agg [b,c1,c2])),(11,.v (.agg [b,c1,c2]))],[]⟩,?_,rfl⟩
  ·simp[A0,aH,an.lh,lT,gy,Env.ins,eo,Env.get,bg,AV.cells,l,m,p,f,i,j,bz,setCells]
  ·simp[aH,eo,Env.get,Env.del,bC,f,i,j,an.put,eH,Env.ins]
variable {x:AV}
theorem al2{y:AV}(ah:hD x=true)(h:dB x y=false):x≠y:=fun e=>by
 subst e;rw[Av ah]at h;cases h
theorem al3(h:hD x=true):cP x:=by
 cases x<;>simp only[hD,Bool.false_eq_true]at h<;>exact fun _ _ _ h=>by simp at h
structure G4(P:Program)(N l bj bi m:Nat)(es:List (AV×AV))(J:List Value->World->Prop)(a:Act)(w:World)(seen:List AV)(xs:List Value):Prop where
 size:a.tmps.size=N
 defers:a.defers=[]
 Dq:a.tmps[0]?=some (.func (.yield l) #[] #[])
 it:a.tmps[5]?=some (ptrTo bi 0)
 Dr:oZ P w bj bi m es seen
 mE:cr g0 seen xs
 nodup:seen.Nodup
 mem:∀k∈seen,k∈es.map (·.1)
 j:J xs w
variable {m:Nat}{es:List (AV×AV)}
theorem nodup_keys{b id:Nat}(h:mz P g w id b m es):(es.map (·.1)).Nodup/\∀e∈es,hD e.1=true:=by
 obtain⟨arr,k,l,⟨cX,d,p,f⟩,q,r,j,t⟩:=h;have hk:∀e∈es,hD e.1=true:=fun e he=>by
  obtain⟨i,ak,c⟩:=List.getElem_of_mem (d.mem_iff.2 he);exact(f i e _ (by rw[<-c];exact List.getElem?_eq_getElem ak) (List.getElem?_eq_getElem (by omega))).2.1
 refine⟨?_,hk⟩;rw[List.Nodup,List.pairwise_map];exact j.imp_of_mem fun aE ae h=>al2 (hk _ aE) h
theorem cr.len{xs:List AV}{vs:List Value}(h:cr g xs vs):vs.length=xs.length:=h.get.1
variable {bj bi:Nat}{seen:List AV}
theorem al5(h:oZ P w bj bi m es seen):∃o:Obj,w.heap[bi]?=some o/\o.isWalk=true:=by
 obtain⟨cc,hm,o,aA,b⟩:=h;cases o<;>simp only[pw]at b;exact⟨_,aA,rfl⟩
theorem G5(h:oZ P w bj bi m es seen)(c:∀e∈es,eV e.2=true)(b:w.grownBy w' none):oZ P w' bj bi m es seen :=
 h.keeps c ⟨b.size,fun k o hk _=>(b.block k (LW.1 hk).1 (by simp)).trans hk⟩
section
variable {l bj bi m:Nat}{es:List (AV×AV)}{J Jx:List Value->World->Prop}{pre:List cz}{iQ:cz}{seen:List AV}{xs:List Value}{i1 i2 i3 o0 eg B:Nat}{ln iL lG:Array Oper}{x2 x3 kO cU ej fs z0 fX:Oper}{mG:List Oper}
theorem al6{k:AV}{es:List (AV×AV)}(hk:hD k=true):∀{e},e∈es->e.1=k->∃v,gG es k=some v:=by
 induction es with
 |nil=>intro e h;cases h|cons p r ih =>
  intro e h he;obtain⟨c,u⟩:=p;simp only[gG];by_cases b:dB k c=true
  ·exact⟨u,by simp[b]⟩
  ·rcases List.mem_cons.1 h with rfl|h
   ·simp only at he;subst he;exact absurd (Av hk) b
   ·grind
variable {p:Value->Prop}
theorem al7(z:∀f,F.fn f)(aL:F.depth.isSome=true->1<=n)(D:∀e∈es,eV e.2=true)(hk:∀e∈es,rB pre iQ e.1)(l2:13<N)(fl:B<=bi)
  (l6:ln.toList=[x2,x3])(od:iL.toList=z0::fX::mG)(G6:lG.toList=[kO,cU,ej,fs])
  (c1:Dm P N [x2,x3]=true)(c2:sA P N (z0::fX::mG) (.nR 8 (.t 5)::.ext 9 8 0::pre)=true)(fW:Dn P N iQ [kO,cU,ej,fs]=true)
  (dV:ob 0 [x2,x3]=true)(de:ob 0 (z0::fX::mG)=true)(fm:ob 0 [kO,cU,ej,fs]=true)(m1:ob 5 [x2,x3]=true)(m5:ob 5 (z0::fX::mG)=true)(m3:ob 5 [kO,cU,ej,fs]=true)(eW:ob 10 [cU]=true)
  (K:AbidesFrom B J)
  (ao:∀e∈es,∀v,bb g0 e.1 v->p v)(gp:∀pre x qz,J pre qz->p x->pre.length<es.length->YieldAt F (n-1) P l #[x] qz fun e c=>(e=.returned (.bool true)/\J (pre++[x]) c/\KeepsWalks qz c)\/(e=.returned (.bool false)/\Jx (pre++[x]) c))
  (h:G4 P N l bj bi m es J a w seen xs)(al8:∀A w',A.defers=[]->seen.Perm (es.map (·.1))->J xs w'->Q .normal A w')
  (al9:∀A w' pre,A.defers=[]->Jx pre w'->Q .ret A w')(Ds:∀pre W c,Jx pre W->W.grownBy c none->Jx pre c)(S:Act->World->Prop)(fK:∀A w' k x,G4 P N l bj bi m es J A w' (seen++[k]) (xs++[x])->S A w') :
  (Code.seq (.region i1 ln false) (.seq (.cond (.tmp 7) .skip (.exit o0)) (.block eg (.seq (.region i2 iL false) (.seq (.region i3 lG false) (.cond (.tmp 13) .ret .skip)))))).wpIn F n P (Exit.then S (Exit.inBlock o0 Q)) a w:=by
 simp only[Dm,Dn,I9]at c1 fW;obtain⟨⟨⟨aQ,c4⟩,bH⟩,fc⟩:=c1;obtain⟨⟨⟨⟨⟨⟨⟨⟨⟨hJ,d0⟩,m0⟩,al⟩,cx⟩,au⟩,d2⟩,m2⟩,aS⟩,ez⟩:=fW;simp only[ob,List.all_cons,List.all_nil,Bool.and_true,I9,bne_iff_ne,ne_eq]at dV de fm m1 m5 m3 eW;have T:=h.Dr.rel h.size h.defers h.it;obtain⟨yT,tp⟩:=nodup_keys h.Dr.mp;have j4:q8 [ax.map m es,.iter (some 0) m seen] (.ptr 1 0)=some (1,some 0,m,seen,es.filter fun e=>!seen.any (dB e.1)):=by simp[q8]
 refine wpIn_seq (wpIn_region_list ?_);rw[l6];simp only[Gi,I9]at c4;obtain⟨LA,L7⟩:=c4;split at L7
 case h_2=>cases L7
 rename_i rm ama;have TX:x2.dst=some 6:=by simp only[cB,I9,beq_iff_eq]at LA;exact LA.1
 have fN:∀(a:Act)(d t:Nat)(v:Value),a.tmps.size=N->d<N->(a.put (some d) v).tmps[t]?=if t=d then some v else a.tmps[t]?:=fun a d t v aE hd=>sf (by rw[aE];exact hd) v t;unfold wpListIn;rw[if_pos (ve aQ)];refine⟨fun f _=>z f,?_⟩;rw[Oper.semAt_eq _ _ _ (vf aQ)];rcases Sw T ama L7 (x:=.ptr 1 0) rfl j4 with⟨nq,cu⟩|⟨e,he,cv,v,cu,hle,hF,amb,uU⟩
 · -- nothing is left
  rw[cu];show wpListIn F n P ln _ [x3] (a.put x2.dst _) w;rw[TX];have mH:Rel P tC N (tD w) _ (a.put (some 6) (.tuple #[.bool false])) w:=Dp (N:=N) (a:=a.put (some 6) (.tuple #[.bool false])) (e:=[(6,.a8 [.bool false])]) (by simp[Act.put,h.size]) h.defers (by simp) (fun p ao=>by
   simp at ao;subst ao;exact⟨_,by rw[fN _ _ _ _ h.size (by omega)];simp,.a8 _ [.bool false] (.cons _ _ _ _ (.pure _ _ (.bool _)) .nil),fun _ _ _ h=>by simp at h⟩)
  refine A2 z bH (u5 mH fc rfl) fun v w' g' bO i=>?_;refine wpListIn_nil ?_;show(Code.seq _ _).wpIn F n P _ _ _;obtain⟨u,V,X,_⟩:=i.env 7 (.v (.bool false)) rfl;have:=X.nV;subst this;refine wpIn_seq (wpIn_cond_false (by simp[Act.eval,Ja,V]) (wpIn_exit ?_));simp only[Exit.then,Exit.inBlock,if_true];refine al8 _ _ i.defers ?_ (K xs w w' none h.j (grown_of bO) (fun r e=>by cases e));refine(List.perm_ext_iff_of_nodup h.nodup yT).2 fun k=>⟨h.mem k,fun hk=>?_⟩;obtain⟨e,he,rfl⟩:=List.mem_map.1 hk;rw[List.filter_eq_nil_iff]at nq;have U:=nq e he;simp only[Bool.not_eq_true,Bool.not_eq_false',List.any_eq_true]at U;obtain⟨k',j,CS⟩:=U;obtain⟨b3,sg,amc⟩:=List.mem_map.1 (h.mem k' j);have:e.1=k':=K5 (tp e he) (by rw[<-amc];exact tp b3 sg) CS;rw[this];exact j
 · -- an entry has come
  rw[List.mem_filter]at he;obtain⟨Y,yU⟩:=he;have C:=tp e Y;have L8:e.1∉seen:=fun rh=>by
   simp only[Bool.not_eq_true',List.any_eq_false]at yU;exact yU e.1 rh (Av C)
  have amd:=uU bi (by simp[oa]);have ko:oZ P cv bj bi m es (seen++[e.1]):=.of amb D (by simp) (by simp) (by simp[oa]) (by simp[oa]);have lo:J xs cv:=K xs w cv _ h.j amd (fun r e=>by cases e;exact⟨fl,al5 h.Dr⟩);have eh:=D e Y;have n0:e.2.aW=e.2:=by generalize e.2=y at eh;cases y<;>simp[eV]at eh<;>rfl
  have ame:e.1.aW=e.1:=by generalize e.1=y at C;cases y<;>simp only[hD,Bool.false_eq_true]at C<;>rfl
  have Dw:∀g,bb g (.a8 [.bool true,e.1,e.2]) v:=by
   intro g;obtain⟨ws,rfl,oS⟩:=hF.JU;cases oS with
   |cons _ _ u us E U=>cases U with
    |cons _ _ kq TY ai aY=>cases aY with
     |cons _ _ aGQ amf bW dO =>
      cases dO;rw[n0]at bW;exact .a8 _ _ (.cons _ _ _ _ (E.G2 rfl g) (.cons _ _ _ _ (.pure _ _ (bb.hD C ai)) (.cons _ _ _ _ (bW.G2 eh g) .nil)))
  rw[cu];show wpListIn F n P ln _ [x3] (a.put x2.dst _) cv;rw[TX];have mH:Rel P tC N (tD cv) _ (a.put (some 6) v) cv:=Dp (N:=N) (a:=a.put (some 6) v) (e:=[(6,.a8 [.bool true,e.1,e.2])]) (by simp[Act.put,h.size]) h.defers (by simp) (fun p ao=>by
   simp at ao;subst ao;exact⟨_,by rw[fN _ _ _ _ h.size (by omega)];simp,Dw _,fun _ _ _ h=>by simp at h⟩)
  refine A2 z bH (u5 mH fc rfl) fun v1 L g2 bO i=>?_;generalize kU:(a.put (some 6) v).put x3.dst v1=a2 at i;have pz:a2.tmps[0]?=a.tmps[0]?:=by rw[<-kU,rA v1 0 dV.2,fN _ _ _ _ h.size (by omega)];simp
  have pI:a2.tmps[5]?=a.tmps[5]?:=by rw[<-kU,rA v1 5 m1.2,fN _ _ _ _ h.size (by omega)];simp
  clear kU;refine wpListIn_nil ?_;show(Code.seq _ _).wpIn F n P _ _ _;obtain⟨u,V,X,_⟩:=i.env 7 (.v (.bool true)) rfl;have:=X.nV;subst this;refine wpIn_seq (wpIn_cond_true (by simp[Act.eval,Ja,V]) (wpIn_skip ?_));show(Code.block _ _).wpIn F n P _ _ _;refine wpIn_block (wpIn_seq (wpIn_region_list ?_));rw[od];have nu:=grown_of bO;have iw:=G5 ko D nu;have tE:J xs L:=K xs cv L _ lo nu (fun r e=>by cases e);have amg:=iw.rel i.size i.defers (pI.trans h.it);simp only[sA,I9]at c2;obtain⟨⟨f0,f1⟩,⟨f2,f3⟩,f4⟩:=c2;obtain⟨q,dU⟩:∃q,gG es e.1=some q:=al6 C Y rfl;obtain⟨yV,Z,aN,aX,e1,rn,Dy⟩:=St (s':=⟨[(5,.v (.ptr 1 0)),(8,.v (.a8 [e.1,q.aW]))],[.map m es,.iter (some 0) m (seen++[e.1])]⟩) amg f1 (by simp[aH,bg,Env.get,dU,an.put,eH,Env.ins]);have amh:z0.dst=some 8:=by simp only[cB,I9,beq_iff_eq]at aN;exact aN.1
  have ami:yV=.a8 [e.1,q.aW]:=by
   simp only[an.put,eH,Env.get]at aX;simp[Env.ins]at aX;exact aX
  subst ami;obtain⟨k',amj,_⟩:=K9 dU;have fw:eV q=true:=D _ amj;have amk:q.aW=q:=by cases q<;>simp[eV]at fw<;>rfl
  rw[amk]at e1;have aml:∀g,bb g (.a8 [e.1,q]) Z:=by
   intro g;obtain⟨ws,rfl,oS⟩:=e1.JU;cases oS with
   |cons _ _ u us E U=>cases U with
    |cons _ _ kq TY ai aY =>
     cases aY;exact .a8 _ _ (.cons _ _ _ _ (.pure _ _ (bb.hD C E)) (.cons _ _ _ _ (ai.G2 fw g) .nil))
  unfold wpListIn;rw[if_pos (ve f0)];refine⟨fun f _=>z f,?_⟩;rw[Oper.semAt_eq _ _ _ (vf f0),Dy];show wpListIn F n P iL _ (fX::mG) (a2.put z0.dst Z) L;rw[amh];have z3:Rel P tC N (tD L) _ (a2.put (some 8) Z) L:=Dp (N:=N) (a:=a2.put (some 8) Z) (e:=[(8,.a8 [e.1,q])]) (by simp[Act.put,i.size]) i.defers (by simp) (fun p ao=>by
   simp at ao;subst ao;exact⟨_,by rw[fN _ _ _ _ i.size (by omega)];simp,aml _,fun _ _ _ h=>by simp at h⟩)
  refine A2 z f2 (u5 (s':=⟨[(8,.v (.a8 [e.1,q])),(9,.v e.1)],[]⟩) z3 f3 (by simp[aH,Env.get,an.put,eH,Env.ins,ame])) fun v9 gB g3 t1 t2=>?_;generalize L9:(a2.put (some 8) Z).put fX.dst v9=a4 at t2;have amm:a4.tmps[0]?=a.tmps[0]?:=by rw[<-L9,rA v9 0 de.2.1,fN _ _ _ _ i.size (by omega)];simpa using pz
  have amn:a4.tmps[5]?=a.tmps[5]?:=by rw[<-L9,rA v9 5 m5.2.1,fN _ _ _ _ i.size (by omega)];simpa using pI
  clear L9;have Dz:=grown_of t1;have Cv:=G5 iw D Dz;have amo:J xs gB:=K xs L gB _ tE Dz (fun r e=>by cases e);obtain⟨lZ,amp,amq,_⟩:=t2.env 9 (.v e.1) rfl;have gd:∀g,bb g e.1 lZ:=fun g=>.pure _ _ (bb.hD C amq);obtain⟨s2,bI,er,jj,oN,uY⟩:=hk e Y;have z4:Rel P tC N (tD gB) _ a4 gB:=Dp (N:=N) (a:=a4) (e:=[(9,e.1)]) t2.size t2.defers (by simp) (fun p ao=>by
   simp at ao;subst ao;exact⟨lZ,amp,gd _,al3 C⟩)
  rw[<-List.append_nil mG];refine TT z mG pre f4 z4 bI fun g5 a5 Ma t3 t4 t5=>wpListIn_nil ?_;show(Code.seq _ _).wpIn F n P _ a5 Ma;have TZ:a5.tmps[0]?=a.tmps[0]?:=(t5 0 (fun o aA=>by have:=List.all_eq_true.1 de.2.2 o aA;simpa using this)).trans amm;have amr:a5.tmps[5]?=a.tmps[5]?:=(t5 5 (fun o aA=>by have:=List.all_eq_true.1 m5.2.2 o aA;simpa using this)).trans amn;refine wpIn_seq (wpIn_region_list ?_);rw[G6]
  -- the call
  have ams:kO.dst=some 10:=by simp only[cB,I9,beq_iff_eq]at d0;exact d0.1
  have amt:ej.dst=some 12:=by simp only[cB,I9,beq_iff_eq]at d2;exact d2.1
  unfold wpListIn;rw[if_pos (ve hJ)];refine⟨fun f _=>z f,?_⟩;rw[Oper.semAt_eq _ _ _ (vf hJ),alZ m0 (TZ.trans h.Dq)];show wpListIn F n P lG _ [cU,ej,fs] (a5.put kO.dst _) Ma;rw[ams];have t6:=t4.forget (v:=.func (.yield l) #[] #[]) er (by omega);refine A2 z al (u5 t6 cx oN) fun G7 G8 g6 b0 G=>?_;generalize G9:(a5.put (some 10) (.func (.yield l) #[] #[])).put cU.dst G7=H at G;have amu:H.tmps[0]?=a.tmps[0]?:=by rw[<-G9,rA G7 0 fm.2.1,fN _ _ _ _ t4.size (by omega)];simpa using TZ
  have amv:H.tmps[5]?=a.tmps[5]?:=by rw[<-G9,rA G7 5 m3.2.1,fN _ _ _ _ t4.size (by omega)];simpa using amr
  have amw:H.tmps[10]?=some (.func (.yield l) #[] #[]):=by rw[<-G9,rA G7 10 eW,fN _ _ _ _ t4.size (by omega)];simp
  clear G9;have T0:=grown_of (t3.trans b0);have amx:=G5 Cv D T0;have amy:J xs G8:=K xs gB G8 _ amo T0 (fun r e=>by cases e);obtain⟨O,amz,amA,_⟩:=G.env 11 (.v e.1) uY;have T1:∀g,bb g e.1 O:=fun g=>.pure _ _ (bb.hD C amA);have oQ:(seen++[e.1]).Nodup:=by
   rw[List.nodup_append];exact⟨h.nodup,by simp,fun a aE b ae=>by simp at ae;subst ae;rintro rfl;exact L8 aE⟩
  have n2:∀k∈seen++[e.1],k∈es.map (·.1):=fun k j=>by
   rcases List.mem_append.1 j with j|j
   ·exact h.mem k j
   ·grind
  have hlen:xs.length<es.length:=by
   have E:=List.Nodup.length_le_of_subset oQ (fun k j=>n2 k j);have U:=h.mE.len;simp at E;omega
  obtain⟨qB,Mb,as,eM,a1,dN⟩:=gp xs O G8 amy (ao e Y O (T1 _)) hlen;unfold wpListIn;rw[if_pos (ve au)];refine⟨fun f _=>z f,?_⟩;rw[Oper.semAt_eq _ _ _ (vf au),alY m2 amw amz a1];refine⟨aL,dN.mono ?_⟩;have key:∀(b3:Ending)(c:World)(b:Bool),b3=.returned (.bool b)->(b=true->J (xs++[O]) c/\KeepsWalks G8 c)->(b=false->Jx (xs++[O]) c) ->
    wpListIn F n P lG (Exit.then (fun A w'=>(Code.cond (.tmp 13) .ret .skip).wpIn F n P (Exit.inBlock eg (Exit.then S (Exit.inBlock o0 Q))) A w') (Exit.inBlock eg (Exit.then S (Exit.inBlock o0 Q)))) [fs] (H.put ej.dst (.bool b)) c:=by
   rintro _ c b rfl ay aR;rw[amt];have z5:Rel P tC N (tD c) _ (H.put (some 12) (.bool b)) c:=Dp (N:=N) (a:=H.put (some 12) (.bool b)) (e:=[(12,.bool b)]) (by simp[Act.put,G.size]) G.defers (by simp) (fun p ao=>by
    simp at ao;subst ao;exact⟨_,by rw[fN _ _ _ _ G.size (by omega)];simp,.pure _ _ (.bool b),oH b⟩)
   refine A2 z aS (u5 (s':=⟨[(12,.v (.bool b)),(13,.v (.bool (!b)))],[]⟩) z5 ez (by simp[aH,bg,Env.get,an.put,eH,Env.ins])) fun Mc Ha g7 x1 x2=>?_;generalize Md:(H.put (some 12) (.bool b)).put fs.dst Mc=R at x2;have amB:R.tmps[0]?=a.tmps[0]?:=by rw[<-Md,rA Mc 0 fm.2.2.2,fN _ _ _ _ G.size (by omega)];simpa using amu
   have amC:R.tmps[5]?=a.tmps[5]?:=by rw[<-Md,rA Mc 5 m3.2.2.2,fN _ _ _ _ G.size (by omega)];simpa using amv
   clear Md;refine wpListIn_nil ?_;show(Code.cond _ _ _).wpIn F n P _ R Ha;have Me:=grown_of x1;obtain⟨u,V,X,_⟩:=x2.env 13 (.v (.bool (!b))) rfl;have:=X.nV;subst this;have dJ:R.eval (.tmp 13)=.bool (!b):=by simp[Act.eval,Ja,V]
   cases b with
   |true =>
    obtain⟨re,j⟩:=ay rfl;refine wpIn_cond_false dJ (wpIn_skip ?_);show S R Ha;exact fK _ _ e.1 O ⟨x2.size,x2.defers,amB.trans h.Dq,amC.trans h.it,G5 (amx.keeps D j) D Me,h.mE.append (.cons _ _ _ _ (T1 _) .nil),oQ,n2,K _ c Ha _ re Me (fun r e=>by cases e)⟩
   |false =>
    refine wpIn_cond_true dJ (wpIn_ret ?_);show Q .ret R Ha;exact al9 _ _ _ x2.defers (Ds _ _ _ (aR rfl) Me)
  rintro b3 c (⟨rfl,E,U⟩|⟨rfl,E⟩)
  ·grind
  ·grind
theorem amD{l:List Oper}(h:G3 P N l=true):∃b x1,l=[b,x1]:=by
 unfold G3 at h;split at h
 ·exact⟨_,_,rfl⟩
 ·cases h
theorem amE{l:List Oper}(h:Dm P N l=true):∃b x1,l=[b,x1]:=by
 unfold Dm at h;split at h
 ·exact⟨_,_,rfl⟩
 ·cases h
theorem amF{iQ:cz}{l:List Oper}(h:Dn P N iQ l=true):∃b x1 x2 x3,l=[b,x1,x2,x3]:=by
 unfold Dn at h;split at h
 ·exact⟨_,_,_,_,rfl⟩
 ·cases h
theorem amG{a b:cz}{pre:List cz}:∀{l:List Oper},sA P N l (a::b::pre)=true->∃c x1 mG,l=c::x1::mG
 |[],h=>by simp[sA]at h|[_],h=>by simp[sA]at h|x::y::r,_=>⟨x,y,r,rfl⟩
theorem amH(C:∀f,F.fn f)(vd:F.round=none)(aL:F.depth.isSome=true->1<=n){h4:Nat}{fn:Func}{c:Code}{pre:List cz}{iQ:cz}(aR:P.funcs[h4]?=some fn)(ae:fn.body=some c)
  (u2:fn.results=#[])(y:A4 P fn.ntmps pre iQ c=true){id bj m j l:Nat}{es:List (AV×AV)}(K:∀e∈es,eV e.2=true)(hk:∀e∈es,rB pre iQ e.1)
  (hm:mz P g w id bj m es)(DA:w.cell? ⟨j,0,none⟩=some (.map (some bj))){J Jx:List Value->World->Prop}(sB:AbidesFrom w.heap.size J)(Ds:∀pre W h,Jx pre W->W.grownBy h none->Jx pre h)
  (ao:∀e∈es,∀v,bb g0 e.1 v->p v)(gp:∀pre x L,J pre L->p x->pre.length<es.length->YieldAt F (n-1) P l #[x] L fun e h=>(e=.returned (.bool true)/\J (pre++[x]) h/\KeepsWalks L h)\/(e=.returned (.bool false)/\Jx (pre++[x]) h))
  (aP:J [] w):CallsIn F n P h4 #[.func (.yield l) #[] #[],ptrTo j 0] w fun e h=>(∃v,e=.returned v) /\
   ((∃xs,(∃ks,ks.Perm (es.map (·.1))/\cr g0 ks xs)/\J xs h)\/(∃pre,True/\Jx pre h)):=by
 unfold A4 at y;split at y
 case h_2=>cases y
 rename_i i0 A5 o0 i1 ln t7 TV eg i2 iL i3 lG t13;simp only[I9,beq_iff_eq,decide_eq_true_eq]at y;obtain⟨⟨⟨⟨⟨⟨⟨⟨⟨⟨⟨⟨⟨⟨⟨rfl,rfl⟩,rfl⟩,l2⟩,D⟩,O⟩,R⟩,S⟩,GL⟩,dV⟩,de⟩,fm⟩,m1⟩,m5⟩,m3⟩,eW⟩:=y;obtain⟨U,z,Hb⟩:=amD D;obtain⟨x2,x3,l6⟩:=amE O;obtain⟨z0,fX,mG,od⟩:=amG R;obtain⟨kO,cU,ej,fs,G6⟩:=amF S;rw[Hb]at D GL;rw[l6]at O dV m1;rw[od]at R de m5;rw[G6]at S fm m3 eW;simp only[G3,I9]at D;obtain⟨⟨⟨pJ,i⟩,E⟩,b⟩:=D;refine callsIn_of_wp aR ae (C _) ?_ vd;have V:(#[Value.func (.yield l) #[] #[],ptrTo j 0]++Array.replicate (fn.ntmps-2) undef).size=fn.ntmps:=by simp;omega
 show Code.wpIn _ _ _ _ _ { tmps:=#[Value.func (.yield l) #[] #[],ptrTo j 0]++Array.replicate (fn.ntmps-2) undef,defers:=[] } w;generalize dL:(#[Value.func (.yield l) #[] #[],ptrTo j 0]++Array.replicate (fn.ntmps-2) undef)=T at V;have Mf:T[0]?=some (.func (.yield l) #[] #[]):=by rw[<-dL];simp[Array.getElem?_append]
 have Dh:T[1]?=some (ptrTo j 0):=by rw[<-dL];simp[Array.getElem?_append]
 clear dL;refine wpIn_seq (wpIn_region_list ?_);rw[Hb];have X:U.dst=some 4:=by simp only[wE,cB,I9,beq_iff_eq]at i;exact i.1.1
 have yW:(execOp ({ tmps:=T,defers:=[] }:Act).eval U).run P w=.ok (.value (.map (some bj))) w:=by
  simp only[wE,I9]at i;obtain⟨_,i⟩:=i;split at i
  ·rename_i t Y Z;simp only[I9]at i;obtain⟨⟨ah,_⟩,hk⟩:=i;have n1:Y=.tmp 1:=by unfold ds at ah;split at ah<;>simp_all
   subst n1;have dJ:({ tmps:=T,defers:=[] }:Act).eval (.tmp 1)=ptrTo j 0:=by simp[Act.eval,Ja,Dh]
   simp only[execOp,Z,Sem.run_bind,dJ];split at hk
   ·simp at hk
   ·simp at hk
   ·rename_i oJ kL uK nj;rw[FU nj ⟨fun dm e=>kL dm e,fun n e b3=>uK n e b3⟩ DA];rfl
   ·cases hk
  ·cases i
 unfold wpListIn;rw[if_pos (ve pJ)];refine⟨fun f _=>C f,?_⟩;rw[Oper.semAt_eq _ _ _ (vf pJ),yW];show wpListIn F n P A5 _ [z] (Act.put { tmps:=T,defers:=[] } U.dst _) w;rw[X];have fN:∀(a:Act)(d t:Nat)(v:Value),a.tmps.size=fn.ntmps->d<fn.ntmps->(a.put (some d) v).tmps[t]?=if t=d then some v else a.tmps[t]?:=fun a d t v aE hd=>sf (by rw[aE];exact hd) v t;have dN:=alW (N:=fn.ntmps) (a:=Act.put { tmps:=T,defers:=[] } (some 4) (.map (some bj))) (t:=4) hm K (by simp[Act.put,V]) rfl (by rw[fN _ _ _ _ V (by omega)];simp);generalize xb:Act.put { tmps:=T,defers:=[] } (some 4) (.map (some bj))=A at dN;have amJ:A.tmps[0]?=some (.func (.yield l) #[] #[]):=by grind
 have T2:A.tmps[4]?=some (.map (some bj)):=by grind
 clear xb;have T3:z.dst=some 5:=by simp only[j7,CU,cB,I9,beq_iff_eq]at b;exact b.1.1
 have rp:(execOp A.eval z).run P w=.ok (.value (ptrTo w.heap.size 0)) (w.alloc (.mapIter (some bj) m #[] m)):=by
  simp only[j7,CU,I9]at b;obtain⟨_,b⟩:=b;split at b
  ·rename_i t Y Z;simp only[I9]at b;obtain⟨ah,hk⟩:=b;have n1:Y=.tmp 4:=by unfold ds at ah;split at ah<;>simp_all
   subst n1;have dJ:A.eval (.tmp 4)=.map (some bj):=by simp[Act.eval,Ja,T2]
   obtain⟨arr,E,_⟩:=hm;split at hk
   ·rename_i ei hc hu;simp only[execOp,Z,dJ,Sem.run_bind,run_range_map hu E,Result.andThen_ok,Sem.run_pure]
   ·cases hk
  ·cases b
 obtain⟨v5,cv,g1,aN,aX,u⟩:=u5 (s':=⟨[(4,.v (.map 0)),(5,.v (.ptr 1 0))],[.map m es,.iter (some 0) m []]⟩) dN b (by simp[aH,bg,Env.get,an.put,eH,Env.ins]);have amK:v5=ptrTo w.heap.size 0/\cv=w.alloc (.mapIter (some bj) m #[] m):=by grind
 obtain⟨rfl,rfl⟩:=amK;unfold wpListIn;rw[if_pos (ve E)];refine⟨fun f _=>C f,?_⟩;rw[Oper.semAt_eq _ _ _ (vf E),rp];rw[Oper.uponIn_value];refine wpListIn_nil ?_;show(Code.block _ _).wpIn F n P _ _ _;generalize G:A.put z.dst (ptrTo w.heap.size 0)=a2 at u;have amL:¬z.dst=some 0:=by grind
 have amM:a2.tmps[0]?=some (.func (.yield l) #[] #[]):=by rw[<-G,rA _ 0 amL];exact amJ
 have amN:a2.tmps[4]?=some (.map (some bj)):=by rw[<-G,rA _ 4 (by rw[T3];simp)];exact T2
 have T4:a2.tmps[5]?=some (ptrTo w.heap.size 0):=by rw[<-G,T3,fN _ _ _ _ dN.size (by omega)];simp
 clear G;obtain⟨oe,T5,amO,_⟩:=u.env 4 (.v (.map 0)) rfl;obtain⟨q,amP,rfl⟩:=amO.uI;obtain⟨aGR,T6,amQ,_⟩:=u.env 5 (.v (.ptr 1 0)) rfl;obtain⟨bi,amR,rfl⟩:=amQ.sh;have rj:q=bj:=by rw[amN]at T5;simpa using T5.symm
 have amS:bi=w.heap.size:=by rw[T4]at T6;simpa[ptrTo]using T6.symm
 subst rj amS;have uU:w.grownBy (w.alloc (.mapIter (some q) m #[] m)) none:=World.grownBy_alloc _ _ _;have ko:oZ P (w.alloc (.mapIter (some q) m #[] m)) q w.heap.size m es []:=.of u K (by simp) (by simp) amP amR;have rk:G4 P fn.ntmps l q w.heap.size m es J a2 (w.alloc (.mapIter (some q) m #[] m)) [] [] :=
  ⟨u.size,u.defers,amM,T4,ko,.nil,by simp,by simp,sB [] w _ none aP uU (fun r e=>by cases e)⟩
 refine wpIn_block (wpIn_loop (fun a w'=>∃seen xs,G4 P fn.ntmps l q w.heap.size m es J a w' seen xs) (fun _ w'=>es.length-L4 w' w.heap.size) ⟨[],[],rk⟩ ?_);rintro a3 gB ⟨seen,xs,ai⟩;refine al7 (B:=w.heap.size) C aL K hk l2 (Nat.le_refl _) l6 od G6 O R S dV de fm m1 m5 m3 eW sB ao gp ai ?_ ?_ Ds _ ?_
 ·intro ch w' hd ao aZ;exact⟨hd,.tuple #[],by simp[results,u2],⟨_,rfl⟩,.inl ⟨xs,⟨seen,ao,ai.mE⟩,aZ⟩⟩
 ·intro ch w' pre hd ah;exact⟨hd,.tuple #[],by simp[results,u2],⟨_,rfl⟩,.inr ⟨pre,trivial,ah⟩⟩
 ·intro ch w' k x H;refine⟨⟨_,_,H⟩,?_⟩;have h1:=List.Nodup.length_le_of_subset H.nodup (fun k hk=>H.mem k hk);rw[H.Dr.TU,ai.Dr.TU];simp at h1 ⊢;omega
end
end
end AM
