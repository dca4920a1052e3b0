/- An abstract machine for the program of the seat, and what of the given program it does, part 10 of 17. Conditions: none. -/
import Derived.Test.YtjpfdkecffnlbaaGreatDoorAm8
import Derived.CheckFast
import Derived.Orders
set_option linter.unusedVariables false
set_option linter.unusedSimpArgs false
/-! Regions that draw their order: every order does what the order of the text does. -/
namespace AM
open Go
inductive ji (cZ:Region.Mode) (ops:Array Oper):List Nat→List Nat→Prop
 | nil (done:List Nat):ji cZ ops done []
 | cons (done L:List Nat) (i:Nat) (o:Oper) (aE:ops[i]?=some o) (av:i∉done) (he:∀e∈o.after.toList,Region.binds cZ e=true→e.on∈done) (dy:ji cZ ops (i::done) L):ji cZ ops done (i::L)
theorem ji.lt {cZ:Region.Mode} {ops:Array Oper} {done L:List Nat} (h:ji cZ ops done L):∀i∈L,i<ops.size:=by
 induction h with
 | nil=>simp
 | cons done L i o aE av he dy ih =>
  intro j a6
  rcases List.mem_cons.1 a6 with rfl | a6
  ·exact (Array.getElem?_eq_some_iff.1 aE).1
  ·exact ih j a6
theorem ji.nodup {cZ:Region.Mode} {ops:Array Oper} {done L:List Nat} (h:ji cZ ops done L):L.Nodup∧∀i∈L,i∉done:=by
 induction h with
 | nil=>simp
 | cons done L i o aE av he dy ih =>
  refine ⟨List.nodup_cons.2 ⟨fun h=>(ih.2 i h) (by simp),ih.1⟩,fun j a6=>?_⟩
  rcases List.mem_cons.1 a6 with rfl | a6
  ·exact av
  ·exact fun h=>ih.2 j a6 (by simp [h])
def lj (ops:Array Oper) (l:Array Bool) (done:List Nat):Prop:=l.size=ops.size∧∀i,l[i]?=some true↔i∈done
theorem lj.getD {ops:Array Oper} {l:Array Bool} {done:List Nat} (h:lj ops l done) (i:Nat):l.getD i false=true↔i∈done:=by
 rw [←h.2 i,Array.getD_eq_getD_getElem?]
 cases l[i]? with
 | none=>simp
 | some b=>simp
theorem lj.set {ops:Array Oper} {l:Array Bool} {done:List Nat} (h:lj ops l done) {i:Nat} (av:i<ops.size):lj ops (l.setIfInBounds i true) (i::done):=by
 refine ⟨by simp [h.1],fun j=>?_⟩
 rw [Array.getElem?_setIfInBounds]
 by_cases e:i=j
 ·subst e;simp [h.1,av]
 ·simp [e,h.2 j,Ne.symm e]
theorem DR {cZ:Region.Mode} {ops:Array Oper} {l:Array Bool} {done:List Nat} (h:lj ops l done) (i:Nat):i∈Region.ready cZ ops l↔∃o,ops[i]?=some o∧i∉done∧∀e∈o.after.toList,Region.binds cZ e=true→e.on∈done:=by
 unfold Region.ready
 simp only [List.mem_filter,List.mem_range,Bool.and_eq_true,Bool.not_eq_true']
 constructor
 ·rintro ⟨R,aa,al⟩
  refine ⟨ops[i],by simp [R],?_,?_⟩
  ·intro aw
   have:=(h.2 i).2 aw
   rw [Array.getD_eq_getD_getElem?,this] at aa
   simp at aa
  ·intro e he ah
   rw [show ops[i]?=some ops[i] by simp [R]] at al
   simp only [Option.map_some,Option.getD_some] at al
   rw [Array.all_eq_true_iff_forall_mem] at al
   have:=al e (by simpa using he)
   rw [ah] at this
   simp only [Bool.not_true,Bool.false_or] at this
   exact (h.getD _).1 this
 ·rintro ⟨o,R,aa,al⟩
  have av:=(Array.getElem?_eq_some_iff.1 R).1
  refine ⟨av,?_,?_⟩
  ·rw [Array.getD_eq_getD_getElem?]
   have aN:i<l.size:=by rw [h.1];exact av
   have a1:l[i]?≠some true:=fun e=>aa ((h.2 i).1 e)
   simp only [Array.getElem?_eq_getElem aN,Option.some.injEq,ne_eq,Bool.not_eq_true] at a1
   simp [aN,a1]
  ·rw [R]
   simp only [Option.map_some,Option.getD_some]
   rw [Array.all_eq_true_iff_forall_mem]
   intro e he
   cases ah:Region.binds cZ e with
   | false=>simp
   | true=>simp [(h.getD e.on).2 (al e (by simpa using he) ah)]
theorem go_eq {cZ:Region.Mode} {ops:Array Oper} {fuel t:Nat} {l:Array Bool}:Region.linearise.go cZ ops (fuel+1) t l []=(match (Region.ready cZ ops l)[t % (Region.ready cZ ops l).length]? with
   | some i=>i::Region.linearise.go cZ ops fuel (t / (Region.ready cZ ops l).length) (l.setIfInBounds i true) []
   | none=>[]):=by
 simp only [Region.linearise.go]
 change (match (Region.ready cZ ops l)[t % (Region.ready cZ ops l).length]? with
   | some i=>Region.linearise.go cZ ops fuel (t / (Region.ready cZ ops l).length) (l.setIfInBounds i true) [i]
   | none=>[].reverse)=_
 split
 ·rename_i i av
  rw [linearise_go_acc]
  simp
 ·simp
theorem DS {cZ:Region.Mode} {ops:Array Oper}:∀(fuel t:Nat) (l:Array Bool) (done:List Nat),lj ops l done→ji cZ ops done (Region.linearise.go cZ ops fuel t l [])
 | 0,t,l,done,h=>by simp only [Region.linearise.go];exact .nil _
 | fuel+1,t,l,done,h=>by
  rw [go_eq]
  split
  ·rename_i i av
   obtain ⟨o,R,aa,al⟩:=(DR h i).1 (List.mem_of_getElem? av)
   exact .cons _ _ i o R aa al (DS fuel _ _ _ (h.set (Array.getElem?_eq_some_iff.1 R).1))
  ·exact .nil _
theorem ab8 {cZ:Region.Mode} {ops:Array Oper} {W:List Nat}:∀{zl:List Nat},ji cZ ops zl W→∀{l:Array Bool} {done:List Nat},lj ops l done→(∀i∈zl,i∈done)→(∃i∈W,i∉done)→Region.ready cZ ops l≠[]:=by
 intro zl hC
 induction hC with
 | nil=>intro l done _ _ ⟨i,av,_⟩;simp at av
 | cons zl L i o aE av he dy ih =>
  intro l done h lL hex
  by_cases aw:i∈done
  ·refine ih h (fun j a6=>?_) ?_
   ·rcases List.mem_cons.1 a6 with rfl | a6
    ·exact aw
    ·exact lL j a6
   ·obtain ⟨j,a6,tI⟩:=hex
    rcases List.mem_cons.1 a6 with rfl | a6
    ·exact absurd aw tI
    ·exact ⟨j,a6,tI⟩
  ·intro aA
   have:i∈Region.ready cZ ops l:=(DR h i).2 ⟨o,aE,aw,fun e R aa=>lL _ (he e R aa)⟩
   rw [aA] at this
   simp at this
theorem ab9 {n:Nat}:∀{L:List Nat},L.Nodup→(∀i∈L,i<n)→L.length≤n:=by
 intro L R aa
 have:L ⊆ List.range n:=fun i av=>List.mem_range.2 (aa i av)
 have h:=List.Nodup.length_le_of_subset R this
 simpa using h
theorem aca {n:Nat} {L:List Nat} (R:L.Nodup) (aa:∀i∈L,i<n) (al:L.length=n):∀i,i<n→i∈L:=by
 intro i av
 by_cases h:i∈L
 ·exact h
 ·have:(i::L).Nodup:=List.nodup_cons.2 ⟨h,R⟩
  have aY:=ab9 this (n:=n) (by
   intro j a6
   rcases List.mem_cons.1 a6 with rfl | a6
   ·exact av
   ·exact aa j a6)
  simp at aY
  omega
theorem NZ {cZ:Region.Mode} {ops:Array Oper} {W:List Nat} (hC:ji cZ ops [] W) (acb:W.length=ops.size):∀(fuel t:Nat) (l:Array Bool) (done:List Nat),lj ops l done→done.Nodup→(∀i∈done,i<ops.size)→fuel+done.length=ops.size→(Region.linearise.go cZ ops fuel t l []).length=fuel
 | 0,t,l,done,h,_,_,_=>by simp [Region.linearise.go]
 | fuel+1,t,l,done,h,a1,aw,aP=>by
  have ck:Region.ready cZ ops l≠[]:=by
   refine ab8 hC h (by simp) ?_
   by_cases hex:∃i∈W,i∉done
   ·exact hex
   ·have:W ⊆ done:=fun i av=>by
     by_cases h:i∈done
     ·exact h
     ·exact absurd ⟨i,av,h⟩ hex
    have:=List.Nodup.length_le_of_subset hC.nodup.1 this
    omega
  rw [go_eq]
  split
  ·rename_i i av
   obtain ⟨o,R,aa,al⟩:=(DR h i).1 (List.mem_of_getElem? av)
   have iE:=(Array.getElem?_eq_some_iff.1 R).1
   rw [List.length_cons,NZ hC acb fuel _ _ (i::done) (h.set iE) (List.nodup_cons.2 ⟨aa,a1⟩) (by
    intro j a6
    rcases List.mem_cons.1 a6 with rfl | a6
    ·exact iE
    ·exact aw j a6) (by simp;omega)]
  ·rename_i av
   have ao:0<(Region.ready cZ ops l).length:=List.length_pos_iff.2 ck
   have:=List.getElem?_eq_none_iff.1 av
   have hm:=Nat.mod_lt t ao
   omega
def zm (cZ:Region.Mode):List Oper→Nat→Bool
 | [],_=>true
 | o::os,i=>(o.after.toList.all fun e=>!Region.binds cZ e||e.on<i)&&zm cZ os (i+1)
def tJ (cZ:Region.Mode) (ops:Array Oper):Bool:=zm cZ ops.toList 0||(Region.linearise cZ ops 0).length==ops.size
theorem N0 {cZ:Region.Mode} {ops:Array Oper}:∀(os:List Oper) (i:Nat) (done:List Nat),(∀k o,os[k]?=some o→ops[i+k]?=some o)→(∀j,j∈done↔j<i)→zm cZ os i=true→ji cZ ops done ((List.range os.length).map (i+·))
 | [],i,done,_,_,_=>by simp;exact .nil _
 | o::os,i,done,h,aw,ah=>by
  simp only [zm,Bool.and_eq_true,List.all_eq_true,Bool.or_eq_true,Bool.not_eq_true',decide_eq_true_eq] at ah
  rw [List.length_cons,List.range_succ_eq_map,List.map_cons,List.map_map]
  refine .cons _ _ (i+0) o (h 0 o (by simp)) (by simp [aw]) (fun e he lH=>?_) ?_
  ·rcases ah.1 e he with R | R
   ·rw [lH] at R;cases R
   ·exact (aw _).2 R
  ·have:=N0 os (i+1) (i::done) (fun k bZ ab=>by
    have:=h (k+1) bZ (by simpa using ab)
    rw [show i+1+k=i+(k+1) by omega];exact this) (fun j=>by simp [aw];omega) ah.2
   have e:((fun x=>i+x)∘Nat.succ)=fun x=>i+1+x:=by funext x;simp;omega
   rw [e]
   exact this
theorem lj.init (ops:Array Oper):lj ops (Array.replicate ops.size false) []:=⟨by simp,fun i=>by
 rw [Array.getElem?_replicate]
 split<;>simp⟩
theorem acd {cZ:Region.Mode} {ops:Array Oper} (h:tJ cZ ops=true) (t:Nat):ji cZ ops [] (Region.linearise cZ ops t)∧(Region.linearise cZ ops t).length=ops.size:=by
 refine ⟨DS _ _ _ _ (lj.init ops),?_⟩
 simp only [tJ,Bool.or_eq_true,beq_iff_eq] at h
 have:∃W,ji cZ ops [] W∧W.length=ops.size:=by
  rcases h with h | h
  ·exact ⟨_,N0 ops.toList 0 [] (fun k o ab=>by simpa using ab) (by simp) h,by simp⟩
  ·exact ⟨_,DS _ _ _ _ (lj.init ops),h⟩
 obtain ⟨W,R,aa⟩:=this
 exact NZ R aa _ _ _ [] (lj.init ops) (by simp) (by simp) (by simp)
theorem ace {cZ:Region.Mode} {e:Edge} (h:Region.binds .any e=true):Region.binds cZ e=true:=by
 unfold Region.binds at h ⊢
 split at h<;>simp_all
theorem ji.any {cZ:Region.Mode} {ops:Array Oper} {done L:List Nat} (h:ji cZ ops done L):ji .any ops done L:=by
 induction h with
 | nil=>exact .nil _
 | cons done L i o aE av he dy ih=>exact .cons _ _ i o aE av (fun e R aa=>he e R (ace aa)) ih
theorem acf {ops:Array Oper} {S:Nat→Prop} (lk:∀j o,S j→ops[j]?=some o→∀e∈o.after.toList,Region.binds .any e=true→S e.on) {i j:Nat} (a6:S j) (ah:((CheckFast.beforeF ops).getD j 0).testBit i=true):S i:=by
 have key:∀(l:List Oper) (A:Array Nat),(∀k o,l[k]?=some o→ops[A.size+k]?=some o)→(∀j i,S j→(A.getD j 0).testBit i=true→S i) →
   ∀j i,S j→((l.foldl (fun acc o=>acc.push (CheckFast.one (fun i=>acc.getD i 0) o)) A).getD j 0).testBit i=true→S i:=by
  intro l
  induction l with
  | nil=>intro A _ h;exact h
  | cons o l ih =>
   intro A aN dk
   simp only [List.foldl_cons]
   refine ih _ (fun k bZ ab=>?_) ?_
   ·have:=aN (k+1) bZ (by simpa using ab)
    rw [Array.size_push,show A.size+1+k=A.size+(k+1) by omega];exact this
   ·intro j i a6 ah
    rw [Array.getD_eq_getD_getElem?,Array.getElem?_push] at ah
    split at ah
    ·rename_i e
     subst e
     have aE:=aN 0 o (by simp)
     simp only [Option.getD_some] at ah
     have kA:∀e∈o.after.toList,Region.binds .any e=true→S e.on:=lk _ o a6 (by simpa using aE)
     unfold CheckFast.one at ah
     rw [←Array.foldl_toList] at ah
     have aux:∀(es:List Edge) (z:Nat),(∀e∈es,Region.binds .any e=true→S e.on)→(z.testBit i=true→S i) →
       (es.foldl (fun s e=>if Region.binds .any e=true then s||| 2 ^ e.on||| A.getD e.on 0 else s) z).testBit i=true→S i:=by
      intro es
      induction es with
      | nil=>intro z _ bx h;exact bx h
      | cons e es acg =>
       intro z kA bx
       simp only [List.foldl_cons]
       refine acg _ (fun bH ks=>kA bH (by simp [ks])) ?_
       intro zn
       split at zn
       ·rename_i lH
        have he:=kA e (by simp) lH
        simp only [Nat.testBit_or,Bool.or_eq_true,Nat.testBit_two_pow,decide_eq_true_eq] at zn
        rcases zn with (h | h) | h
        ·exact bx h
        ·rw [←h];exact he
        ·exact dk _ _ he h
       ·exact bx zn
     exact aux _ 0 kA (by simp) ah
    ·exact dk j i a6 (by rw [Array.getD_eq_getD_getElem?];exact ah)
 rw [CheckFast.beforeF_eq] at ah
 unfold Region.before at ah
 rw [←Array.foldl_toList] at ah
 exact key ops.toList #[] (fun k o ab=>by simpa using ab) (by simp) j i a6 ah
section
variable {P:Program} {gl:aR} {D:cv}
theorem N1 {b:ev} {tK:List ev} {K:ae→Prop} (ah:ba b.o≠9):∀(oo:List ev),(∀a∈oo,ba a.o≠9∧indep a b=true)→∀{s:ae},s.env.cR→gI P gl D (oo++b::tK) s K→gI P gl D (b::(oo++tK)) s K
 | [],_,s,_,h=>h
 | a::oo,h,s,aS,aA=>by
  obtain ⟨R,aa⟩:=h a (by simp)
  rw [List.cons_append,wv] at aA
  have j5:=zf (K':=fun s'=>gI P gl D (b::(oo++tK)) s' K) (fun s' bc=>N1 ah oo (fun a aZ=>h a (by simp [aZ])) bc.2 bc.1) (NW R aS aA)
  have DT:jg P gl D s (fun s1=>jg P gl D s1 (fun s2=>gI P gl D (oo++tK) s2 K) b) a:=zf (fun s' bc=>wv.1 bc) j5
  have:=abV R ah aS aa DT
  rw [List.cons_append]
  exact wv.2 (zf (fun s' bc=>wv.2 bc) this)
def N2 (ops:Array Oper) (b6:List ev):Prop:=∀i j a b,i<j→b6[i]?=some a→b6[j]?=some b→indep a b=true∨((CheckFast.beforeF ops).getD j 0).testBit i=true
theorem ach {ops:Array Oper} {b6:List ev} {K:ae→Prop} (a1:b6.length=ops.size) (ab:∀it∈b6,ba it.o≠9) (ao:N2 ops b6) :
  ∀{done L:List Nat},ji .any ops done L→∀{T:List Nat} {s:ae},T.Pairwise (·<·)→(∀x,x∈T↔x∈L)→(∀j∈done,∀o,ops[j]?=some o→∀e∈o.after.toList,Region.binds .any e=true→e.on∈done)→s.env.cR →
   gI P gl D (T.filterMap (b6[·]?)) s K→gI P gl D (L.filterMap (b6[·]?)) s K:=by
 intro done L dy
 induction dy with
 | nil =>
  intro T s cL hm _ _ aA
  have:T=[]:=by
   cases T with
   | nil=>rfl
   | cons x T=>have:=(hm x).1 (by simp);simp at this
  subst this
  exact aA
 | cons done L i o aE av he dy ih =>
  intro T s cL hm aw aS aA
  have aci:i∈T:=(hm i).2 (by simp)
  obtain ⟨oo,tK,rfl⟩:=List.append_of_mem aci
  have aqS:=(Array.getElem?_eq_some_iff.1 aE).1
  have tL:b6[i]?=some (b6[i]'(by omega)):=by simp [show i<b6.length by omega]
  generalize b6[i]'(by omega)=b at tL
  rw [List.pairwise_append,List.pairwise_cons] at cL
  obtain ⟨tM,⟨acj,ack⟩,DU⟩:=cL
  have n8:=(ji.cons done L i o aE av he dy).nodup
  rw [List.filterMap_append,List.filterMap_cons,tL] at aA
  simp only at aA
  have tN:=N1 (P:=P) (gl:=gl) (D:=D) (ab b (List.mem_of_getElem? tL)) (oo.filterMap (b6[·]?)) (by
   intro a aZ
   rw [List.mem_filterMap] at aZ
   obtain ⟨t,aF,N3⟩:=aZ
   refine ⟨ab a (List.mem_of_getElem? N3),?_⟩
   have bz:=DU t aF i (by simp)
   rcases ao t i a b bz N3 tL with h | h
   ·exact h
   ·have:t∈i::done:=acf (S:=fun j=>j∈i::done) (fun j bZ a6 pt e ks ah=>by
     rcases List.mem_cons.1 a6 with rfl | a6
     ·rw [aE] at pt;cases pt
      exact List.mem_cons.2 (.inr (he e ks ah))
     ·exact List.mem_cons.2 (.inr (aw j a6 bZ pt e ks ah))) (by simp) h
    rcases List.mem_cons.1 this with e | h
    ·omega
    ·have:t∈i::L:=(hm t).1 (by simp [aF])
     exact absurd h (n8.2 t this)) aS aA
  rw [List.filterMap_cons,tL]
  simp only
  rw [wv] at tN ⊢
  refine zf (fun s' bc=>?_) (NW (ab b (List.mem_of_getElem? tL)) aS tN)
  obtain ⟨bc,eD⟩:=bc
  rw [←List.filterMap_append] at bc
  refine ih (T:=oo++tK) ?_ ?_ ?_ eD bc
  ·exact List.pairwise_append.2 ⟨tM,ack,fun a aZ b ah=>DU a aZ b (by simp [ah])⟩
  ·intro x
   have ai:=hm x
   simp only [List.mem_append,List.mem_cons] at ai ⊢
   constructor
   ·intro h
    have aa:x=i∨x∈L:=ai.1 (by rcases h with h | h<;>simp [h])
    rcases aa with rfl | aa
    ·rcases h with h | h
     ·exact absurd (DU x h x (by simp)) (Nat.lt_irrefl _)
     ·exact absurd (acj x h) (Nat.lt_irrefl _)
    ·exact aa
   ·intro h
    have aa:=ai.2 (.inr h)
    rcases aa with aa | rfl | aa
    ·exact .inl aa
    ·exact absurd h (List.nodup_cons.1 n8.1).1
    ·exact .inr aa
  ·intro j a6 bZ pt e ks ah
   rcases List.mem_cons.1 a6 with rfl | a6
   ·rw [aE] at pt;cases pt
    exact List.mem_cons.2 (.inr (he e ks ah))
   ·exact List.mem_cons.2 (.inr (aw j a6 bZ pt e ks ah))
def zo (b:List Nat) (rest:List ev):Nat→List ev→Bool
 | _,[]=>true
 | i,a::b6=>(match rest with | []=>true | _::r=>(List.zip b r).all (fun p=>p.1.testBit i||indep a p.2)&&zo b.tail r (i+1) b6)
def zp (ops:Array Oper) (b6:List ev):Bool:=tJ .any ops&&tJ .text ops&&tJ .gc ops&&b6.all (fun it=>ba it.o != 9)&&zo (CheckFast.beforeF ops).toList.tail b6 0 b6
theorem acm {B:List Nat} {b6:List ev} (fZ:B.length=b6.length):∀(k:Nat) (l:List ev),l=b6.drop k→zo (B.drop (k+1)) l k l=true→∀i j a b,k≤i→i<j→b6[i]?=some a→b6[j]?=some b→(B.getD j 0).testBit i=true∨indep a b=true:=by
 intro k l
 induction l generalizing k with
 | nil =>
  intro aN _ i j a b acn gn aZ ah
  have:b6.length≤k:=by
   have:=congrArg List.length aN
   simp at this;omega
  have:=(List.getElem?_eq_some_iff.1 aZ).1
  omega
 | cons x l ih =>
  intro aN af i j a b acn gn aZ ah
  simp only [zo,Bool.and_eq_true,List.all_eq_true] at af
  have g5:l=b6.drop (k+1):=by
   have:=congrArg List.tail aN
   simpa [List.tail_drop] using this
  by_cases e:k=i
  ·subst e
   have ai:x=a:=by
    have:(b6.drop k)[0]?=some x:=by rw [←aN];rfl
    rw [List.getElem?_drop,Nat.add_zero,aZ] at this
    exact (Option.some.inj this).symm
   subst ai
   have aco:j<B.length:=by rw [fZ];exact (List.getElem?_eq_some_iff.1 ah).1
   have hm:(B.getD j 0,b)∈List.zip (B.drop (k+1)) l:=by
    refine List.mem_of_getElem? (i:=j - (k+1)) ?_
    rw [List.getElem?_zip_eq_some]
    rw [g5,List.getElem?_drop,List.getElem?_drop,show k+1+(j - (k+1))=j by omega]
    refine ⟨?_,ah⟩
    rw [List.getD_eq_getElem?_getD,List.getElem?_eq_getElem aco];rfl
   have:=af.1 _ hm
   simpa [Bool.or_eq_true] using this
  ·refine ih (k+1) g5 ?_ i j a b (by omega) gn aZ ah
   have:=af.2
   rwa [List.tail_drop] at this
theorem acp {ops:Array Oper} {b6:List ev} (a1:b6.length=ops.size) (h:zp ops b6=true):(∀cZ,tJ cZ ops=true)∧(∀it∈b6,ba it.o≠9)∧N2 ops b6:=by
 simp only [zp,Bool.and_eq_true,List.all_eq_true,bne_iff_ne] at h
 obtain ⟨⟨⟨⟨R,aa⟩,al⟩,aY⟩,bn⟩:=h
 refine ⟨fun cZ=>by cases cZ<;>assumption,aY,?_⟩
 intro i j a b gn aZ ah
 have hlen:(CheckFast.beforeF ops).toList.length=b6.length:=by
  rw [CheckFast.beforeF_eq]
  unfold Region.before
  rw [a1,←Array.foldl_toList]
  have:∀(l:List Oper) (A:Array Nat) (f:Array Nat→Oper→Nat),(l.foldl (fun acc o=>acc.push (f acc o)) A).size=A.size+l.length:=by
   intro l
   induction l with
   | nil=>intro A f;simp
   | cons o l ih=>intro A f;simp only [List.foldl_cons];rw [ih];simp;omega
  simpa using this ops.toList #[] _
 have fZ:(CheckFast.beforeF ops).toList.tail=(CheckFast.beforeF ops).toList.drop (0+1):=by simp
 rw [fZ] at bn
 rcases acm hlen 0 b6 (by simp) bn i j a b (by omega) gn aZ ah with h | h
 ·right
  rwa [Array.getD_eq_getD_getElem?,←Array.getElem?_toList,←List.getD_eq_getElem?_getD]
 ·exact .inl h
theorem acq {ops:Array Oper} {b6:List ev} {K:ae→Prop} {m:Bool} {s:ae} (a1:b6.length=ops.size) (aw:zp ops b6=true) (aS:s.env.cR) (t:Nat) (aA:gI P gl D b6 s K) :
  gI P gl D ((Region.schedule m ops t).filterMap (b6[·]?)) s K:=by
 obtain ⟨R,aa,al⟩:=acp a1 aw
 have key:∀cZ t,gI P gl D ((Region.linearise cZ ops t).filterMap (b6[·]?)) s K:=by
  intro cZ t
  obtain ⟨an,ar⟩:=acd (R cZ) t
  have j5:gI P gl D ((List.range ops.size).filterMap (b6[·]?)) s K:=by
   have:(List.range ops.size).filterMap (b6[·]?)=b6:=by
    rw [←a1]
    clear aA a1 aw aa al
    induction b6 with
    | nil=>rfl
    | cons x xs ih =>
     rw [List.length_cons,List.range_succ_eq_map,List.filterMap_cons]
     simp only [List.getElem?_cons_zero,List.filterMap_map]
     congr 1
   rw [this];exact aA
  exact ach a1 aa al an.any List.pairwise_lt_range (fun x=>⟨fun ai=>aca an.nodup.1 an.lt ar x (List.mem_range.1 ai),fun ai=>List.mem_range.2 (an.lt x ai)⟩) (by simp) aS j5
 unfold Region.schedule
 split<;>exact key _ _
end
section
variable (P:Program) (N:Nat)
def fD:Code→ay→Bool
 | c,.sQ _ s=>fD c s
 | c,.drop _ s=>fD c s
 | c,.kill _ s=>fD c s
 | c,.jV _ e sz s=>hf P e sz&&fD c s
 | c,.mX _ _ e sz s=>hf P e sz&&fD c s
 | .skip,.skip=>true
 | .region _ ops draw,.U b6 _=>tw P N ops ops.toList b6&&(!draw||zp ops b6)
 | .seq a b,.seq bO bE=>fD a bO&&fD b bE
 | .cond c a b,.cond fg bO bE=>cA c fg&&fD a bO&&fD b bE
 | .block i c,.block j2 fg=>i==j2&&fD c fg
 | .loop c,.loop fg=>fD c fg
 | .exit i,.exit j=>i==j
 | .ret,.ret=>true
 | _,.bad=>true
 | _,_=>false
end
end AM
/-! The abstract machine's code is the model's: branches, loops, bodies. -/
namespace AM
open Go
section
variable {P:Program} {gl:aR} {D:cv} {N:Nat} {g g':a5} {s s':ae} {a:Act} {w w':World} {o:Oper}
def zq:fO→Exit
 | .normal=>.normal
 | .exit i=>.exit i
 | .ret=>.ret
def zr (P:Program) (gl:aR) (N:Nat) (g:a5) (w:World) (Q:fO→ae→Prop) (e:Exit) (bO:Act) (w':World):Prop :=
 ∃ex s' g',e=zq ex∧Q ex s'∧dj g w g' w'∧Rel P gl N g' s' bO w'
theorem N4 {cZ:Region.Mode} {ops:Array Oper}:∀(fuel t:Nat) (l:Array Bool) (acc:List Nat),(∀i∈acc,i<ops.size)→∀i∈Region.linearise.go cZ ops fuel t l acc,i<ops.size
 | 0,_,_,acc,h,i,av=>h i (by simpa [Region.linearise.go] using av)
 | fuel+1,t,l,acc,h,i,av=>by
  simp only [Region.linearise.go] at av
  split at av
  ·rename_i j a6
   refine N4 fuel _ _ (j::acc) (fun k ab=>?_) i av
   rcases List.mem_cons.1 ab with rfl | ab
   ·have:=List.mem_of_getElem? a6
    simp only [List.mem_filter,List.mem_range] at this
    exact this.1
   ·exact h k ab
  ·exact h i (by simpa using av)
theorem acr {m:Bool} {ops:Array Oper} {t:Nat}:∀i∈Region.schedule m ops t,i<ops.size:=by
 intro i av
 unfold Region.schedule at av
 split at av<;>exact N4 _ _ _ [] (by simp) i av
theorem aU.acs {own:Option Nat} {sz:Nat} {xs:List AV} {v:Value} (h:aU g (.list own sz xs) v):xs.length≤M:=by
 have ao:∀{v},cp g.γ (.list none sz xs) v→xs.length≤M:=fun h=>by
  cases h with
  | fP=>simp
  | list _ _ _ _ _ h=>exact h
 cases h with
 | pure _ _ h=>cases own with
  | none=>exact ao h
  | some e=>cases h
 | own _ _ _ _ h=>exact ao h
theorem aU.zs {l:List UInt8} {v:Value} (h:aU g (.str l) v):l.length≤M:=by
 cases h with
 | pure _ _ h=>cases h with
  | str _ h=>exact h
theorem Rel.kill (h:Rel P gl N g s a w) (t:Nat):Rel P gl N g (yX s t) a w:=by
 unfold yX
 split
 ·exact h.dead _
 ·exact h.dead _
 ·exact h
theorem acu:∀(c8:ay) (c:Code),fD P N c c8=true→∀(Q:fO→ae→Prop) (s:ae) (g:a5) (a:Act) (w:World),Rel P gl N g s a w→exec P gl D c8 s Q→c.wp P (zr P gl N g w Q) a w:=by
 intro c8
 induction c8 with
 | skip =>
  intro c af Q s g a w h ai
  cases c<;>simp [fD] at af
  exact wp_skip ⟨.normal,s,g,rfl,ai,.refl _ _,h⟩
 | ret =>
  intro c af Q s g a w h ai
  cases c<;>simp [fD] at af
  exact wp_ret ⟨.ret,s,g,rfl,ai,.refl _ _,h⟩
 | exit i =>
  intro c af Q s g a w h ai
  cases c<;>simp [fD] at af
  subst af
  exact wp_exit ⟨.exit _,s,g,rfl,ai,.refl _ _,h⟩
 | sQ t c8 ih =>
  intro c af Q s g a w h ai
  have hz:fD P N c c8=true:=by cases c<;>simpa [fD] using af
  simp only [exec] at ai
  split at ai
  ·rename_i own sz xs aF
   obtain ⟨v,_,aa,_⟩:=h.env _ _ aF
   exact ih c hz Q s g a w h (ai aa.acs)
  ·rename_i l aF
   obtain ⟨v,_,aa,_⟩:=h.env _ _ aF
   exact ih c hz Q s g a w h (ai aa.zs)
  ·exact ai.elim
 | drop bk c8 ih =>
  intro c af Q s g a w h ai
  have hz:fD P N c c8=true:=by cases c<;>simpa [fD] using af
  exact ih c hz Q _ g a w (h.close bk) ai
 | kill t c8 ih =>
  intro c af Q s g a w h ai
  have hz:fD P N c c8=true:=by cases c<;>simpa [fD] using af
  exact ih c hz Q _ g a w (h.kill t) ai
 | jV t e sz c8 ih =>
  intro c af Q s g a w h ai
  have hz:hf P e sz=true∧fD P N c c8=true:=by cases c<;>simpa [fD] using af
  simp only [exec] at ai
  split at ai
  ·rename_i s1 fK
   obtain ⟨bX,an,ar⟩:=h.jV hz.1 fK
   refine wp_mono (ih c hz.2 Q s1 bX a w ar ai) ?_
   rintro e de b3 ⟨ex,s2,bQ,rfl,bL,hle,aa⟩
   exact ⟨ex,s2,bQ,rfl,bL,an.trans hle,aa⟩
  ·exact ai.elim
 | mX t off e sz c8 ih =>
  intro c af Q s g a w h ai
  have hz:hf P e sz=true∧fD P N c c8=true:=by cases c<;>simpa [fD] using af
  simp only [exec] at ai
  split at ai
  ·rename_i s1 fK
   obtain ⟨bX,an,ar⟩:=h.mX hz.1 fK
   refine wp_mono (ih c hz.2 Q s1 bX a w ar ai) ?_
   rintro e de b3 ⟨ex,s2,bQ,rfl,bL,hle,aa⟩
   exact ⟨ex,s2,bQ,rfl,bL,an.trans hle,aa⟩
  ·exact ai.elim
 | bad=>intro c af Q s g a w h ai;exact ai.elim
 | U b6 lP =>
  intro c af Q s g a w h ai
  cases c<;>simp only [fD,Bool.false_eq_true] at af
  rename_i id ops draw
  simp only [Bool.and_eq_true] at af
  obtain ⟨aN,kA⟩:=Nd af.1
  simp only [Array.length_toList] at aN
  have N5:∀i,i<ops.size→∃o it,ops[i]?=some o∧b6[i]?=some it∧wa P N ops o it=true:=fun i av=>by
   refine ⟨ops[i],b6[i]'(by omega),by simp [av],by simp [show i<b6.length by omega],kA i _ _ (by simp [av]) (by simp [show i<b6.length by omega])⟩
  have qs:∀s' g' bO w',(fun s':ae=>Q .normal { s' with env:=s'.env.close lP }) s'→dj g w g' w'→Rel P gl N g' s' bO w'→zr P gl N g w Q .normal bO w' :=
   fun s' g' bO w' ab hle aA=>⟨.normal,_,g',rfl,ab,hle,aA.close lP⟩
  cases draw with
  | false =>
   refine wp_region (Nb (D:=D) qs _ (fun i av=>N5 i (by simpa using av)) s g a w h (.refl _ _) ?_)
   rw [aN,aa3]
   exact ai
  | true =>
   simp only [Bool.not_true,Bool.false_or] at af
   refine wp_region_draw fun t=>?_
   have acv:∀s' g' bO w',(fun s':ae=>Q .normal { s' with env:=s'.env.close lP }) s'→dj g { w with drawn:=w.drawn+1 } g' w'→Rel P gl N g' s' bO w'→zr P gl N g w Q .normal bO w' :=
    fun s' g' bO w' ab hle aA=>qs s' g' bO w' ab ⟨⟨hle.γ,hle.b4⟩,hle.outer,hle.size,hle.os,hle.out⟩ aA
   exact Nb (D:=D) acv _ (fun i av=>N5 i (acr i av)) s g a _ h.drawn (.refl _ _) (acq aN.symm af.2 h.sorted t ai)
 | seq x y tO qA =>
  intro c af Q s g a w h ai
  cases c<;>simp only [fD,Bool.false_eq_true] at af
  simp only [Bool.and_eq_true] at af
  refine wp_seq (wp_mono (tO _ af.1 _ s g a w h ai) ?_)
  rintro e de b3 ⟨ex,s1,bX,rfl,bL,hle,R⟩
  cases ex with
  | normal =>
   refine wp_mono (qA _ af.2 Q s1 bX de b3 R bL) ?_
   rintro e dR c2 ⟨ex,s2,bQ,rfl,tP,la,aa⟩
   exact ⟨ex,s2,bQ,rfl,tP,hle.trans la,aa⟩
  | exit i=>exact ⟨.exit i,s1,bX,rfl,bL,hle,R⟩
  | ret=>exact ⟨.ret,s1,bX,rfl,bL,hle,R⟩
 | cond x y z qA acw =>
  intro c af Q s g a w h ai
  cases c<;>simp only [fD,Bool.false_eq_true] at af
  simp only [Bool.and_eq_true] at af
  simp only [exec] at ai
  split at ai
  ·rename_i t aF
   have ax:=ca h af.1.1 aF
   refine wp_cond ax.kt ?_
   cases t with
   | true=>exact qA _ af.1.2 Q s g a w h ai
   | false=>exact acw _ af.2 Q s g a w h ai
  ·exact ai.elim
 | block i x ih =>
  intro c af Q s g a w h ai
  cases c<;>simp only [fD,Bool.false_eq_true] at af
  simp only [Bool.and_eq_true,beq_iff_eq] at af
  obtain ⟨rfl,af⟩:=af
  refine wp_block (wp_mono (ih _ af _ s g a w h ai) ?_)
  rintro e de b3 ⟨ex,s1,bX,rfl,bL,hle,R⟩
  cases ex with
  | normal=>exact ⟨.normal,s1,bX,rfl,bL,hle,R⟩
  | exit j =>
   simp only [zq,Exit.inBlock]
   simp only at bL
   split<;>rename_i a6
   ·rw [if_pos a6] at bL;exact ⟨.normal,s1,bX,rfl,bL,hle,R⟩
   ·rw [if_neg a6] at bL;exact ⟨.exit j,s1,bX,rfl,bL,hle,R⟩
  | ret=>exact ⟨.ret,s1,bX,rfl,bL,hle,R⟩
 | loop x ih =>
  intro c af Q s g a w h ai
  cases c<;>simp only [fD,Bool.false_eq_true] at af
  rename_i c
  intro b k cs
  let X:ae→Prop:=fun s=>∀bX de b3,Rel P gl N bX s de b3→dj g w bX b3 →
   ∃e bO w',zr P gl N g w Q e bO w'∧Arrives P (lone (b.at de (.code c::.inLoop c::k)) cs b3) b k cs e bO w'
  have key:X s:=by
   refine ai X fun s ek bX de b3 R hle=>?_
   obtain ⟨e,dR,c2,⟨ex,s2,bQ,rfl,bL,la,aa⟩,rC⟩:=ih c af _ s bX de b3 R ek b (.inLoop c::k) cs
   cases ex with
   | normal =>
    obtain ⟨dS,r2,eY,acx,acy⟩:=bL bQ dR c2 aa (hle.trans la)
    exact ⟨dS,r2,eY,acx,.of_steps (Steps.trans rC (.one step_inLoop)) acy⟩
   | exit i=>exact ⟨_,dR,c2,⟨.exit i,s2,bQ,rfl,bL,hle.trans la,aa⟩,.pass (x:=.inLoop c) rfl (fun _ _=>.inl (by simp [zq])) rC⟩
   | ret=>exact ⟨_,dR,c2,⟨.ret,s2,bQ,rfl,bL,hle.trans la,aa⟩,.pass (x:=.inLoop c) rfl (fun _ _=>.inl (by simp [zq])) rC⟩
  obtain ⟨e,bO,w',bL,rC⟩:=key g a w h (.refl _ _)
  exact ⟨e,bO,w',bL,.of_steps (.one step_loop) rC⟩
end
end AM
/-! The abstract machine's functions are the model's: results, bodies, calls with and without the heap. -/
namespace AM
open Go
def tQ (P:Program):ResultVar→a2→Bool
 | .tmp t,.t ht=>t==ht
 | .cell x t,.b a9 sz=>x==a9&&(match P.info? t with | some i=>i.size==sz | none=>false)&&(match P.underlying t with | some (.struct _)=>true | _=>false)
 | _,_=>false
def oq (P:Program):List ResultVar→List a2→Bool
 | [],[]=>true
 | r::rs,v::vs=>tQ P r v&&oq P rs vs
 | _,_=>false
def a8 (P:Program) (f k:Nat) (c8:ay) (dT:List a2):Bool :=
 hQ P f&&match P.funcs[f]? with
 | some fn=>(match fn.body with | some c=>fD P fn.ntmps c c8&&oq P fn.results.toList dT&&decide (k≤fn.ntmps) | none=>false)
 | none=>false
def h8:Nat→List AV→Env
 | _,[]=>[]
 | i,x::xs=>(i,.v x)::h8 (i+1) xs
def AV.res:AV→Bool
 | .list _ _ _=>true
 | .bw vs=>vs.all AV.arg
 | x=>x.arg
def qB (K:ae→Prop):fO→ae→Prop
 | .exit _,_=>False
 | _,s=>K s
def wA (tmps:Array Value):ResultVar→Sem Value
 | .tmp t=>pure (tmps.getD t undef)
 | .cell x t=>do loadVar t (←asAddr (tmps.getD x undef))
theorem acz (fn:Func) (tmps:Array Value):results fn tmps=(fn.results.mapM (wA tmps)) >>= fun vs=>pure (if h:vs.size=1 then vs[0] else .tuple vs):=by
 unfold results
 refine congrArg (fun x:Sem (Array Value)=>x >>= _) (congrArg (fun F=>Array.mapM F fn.results) (funext fun r=>?_))
 cases r<;>rfl
section
variable {P:Program} {gl:aR} {D:cv} {N:Nat} {g g':a5} {s s':ae} {a:Act} {w w':World} {o:Oper}
theorem N6 (h:Rel P gl N g s a w) {r:ResultVar} {pv:a2} {x:AV} (af:tQ P r pv=true) (ai:tu s.env pv=some x) :
  ∃v,(wA a.tmps r).run P w=.ok v w∧aU g x v∧(cc x∨∃t,pv=.t t∧dX P g w (.var t) x v):=by
 cases r with
 | tmp t =>
  cases pv with
  | b=>simp [tQ] at af
  | t ht =>
   simp [tQ] at af
   subst af
   simp only [tu] at ai
   split at ai
   ·rename_i y aT
    simp at ai;subst ai
    obtain ⟨v,R,aa,al⟩:=h.env _ _ aT
    have:a.tmps.getD t undef=v:=by simp [Array.getD_eq_getD_getElem?,R]
    exact ⟨v,by simp [wA,this],aa,.inr ⟨t,rfl,al⟩⟩
   ·cases ai
 | cell c t =>
  cases pv with
  | t=>simp [tQ] at af
  | b fg sz =>
   simp only [tQ,Bool.and_eq_true,beq_iff_eq] at af
   obtain ⟨⟨rfl,ea⟩,ab⟩:=af
   simp only [tu] at ai
   split at ai
   ·rename_i cs gD
    split at ai
    ·rename_i hlen
     simp at ai;subst ai
     obtain ⟨b,R,aa⟩:=h.env _ _ gD
     obtain ⟨ws,an,ar,aO,bD⟩:=aa.cells (off:=0) (n:=cs.length)
     simp only [List.drop_zero,List.take_length] at an ar
     split at ea
     ·rename_i i av
      simp at ea
      split at ab
      ·rename_i cu hu
       have ao:a.tmps.getD c undef=ptrTo b 0:=by simp [Array.getD_eq_getD_getElem?,R]
       have aN:=yj (P:=P) (w:=w) (b:=b) (off:=0) av hu (by omega) bD (.inl ⟨cu,rfl⟩)
       refine ⟨.agg ws.toArray,?_,.agg _ _ ar.aL aO,.inl fun e sz xs h=>by simp at h⟩
       simp only [wA,ao]
       simpa [Instr.loadAt,Instr.sureAddr,ptrTo,asAddr] using aN
      ·cases ab
     ·cases ea
    ·cases ai
   ·cases ai
theorem N7 (h:Rel P gl N g s a w):∀{rs:List ResultVar} {dT:List a2} {xs:List AV},oq P rs dT=true→tv s.env dT=some xs →
  xs.length=dT.length∧∃vs,(rs.mapM (wA a.tmps)).run P w=.ok vs w∧bW g xs vs
 | [],[],xs,_,ai=>by simp [tv] at ai;subst ai;exact ⟨rfl,[],by simp,.nil⟩
 | [],_::_,_,af,_=>by simp [oq] at af
 | _::_,[],_,af,_=>by simp [oq] at af
 | r::rs,pv::dT,xs,af,ai=>by
  simp only [oq,Bool.and_eq_true] at af
  simp only [tv] at ai
  split at ai
  ·rename_i y ys R aa
   simp at ai;subst ai
   obtain ⟨v,an,ar,_⟩:=N6 h af.1 R
   obtain ⟨aN,vs,aG,aJ⟩:=N7 h af.2 aa
   refine ⟨by simp [aN],v::vs,?_,.cons _ _ _ _ ar.aL aJ⟩
   rw [List.mapM_cons,Sem.run_bind,an]
   simp only [Result.andThen_ok,Sem.run_bind]
   rw [aG]
   simp
  ·cases ai
theorem acA (h:Rel P gl N g s a w) {fn:Func} {dT:List a2} {x:AV} (af:oq P fn.results.toList dT=true) (ai:mw s.env dT=some x) :
  ∃v,(results fn a.tmps).run P w=.ok v w∧aU g x v∧(cc x∨∃t,dT=[.t t]∧dX P g w (.var t) x v):=by
 rw [acz,Array.mapM_eq_mapM_toList]
 unfold mw at ai
 split at ai
 ·rename_i pv
  generalize fn.results.toList=rs at af
  match rs,af with
  | [r],af =>
   simp only [oq,Bool.and_true] at af
   obtain ⟨v,R,aa,al⟩:=N6 h af ai
   refine ⟨v,?_,aa,al.imp id fun ⟨t,an,ar⟩=>⟨t,by rw [an],ar⟩⟩
   simp [R]
  | _::_::_,af=>simp [oq] at af
 ·rename_i ck
  rw [Option.map_eq_some_iff] at ai
  obtain ⟨xs,gR,rfl⟩:=ai
  obtain ⟨hlen,vs,R,aa⟩:=N7 h af gR
  refine ⟨.tuple vs.toArray,?_,.bw _ _ aa,.inl fun e sz xs h=>by simp at h⟩
  have aN:vs.length≠1:=by
   intro aN
   rw [aa.get.1,hlen] at aN
   match dT,aN with
   | [pv],_=>exact ck pv rfl
  simp [R,aN]
theorem N8:∀(xs:List AV) (i t:Nat),Env.get (h8 i xs) t=if i≤t then (xs[t - i]?).map .v else none
 | [],i,t=>by simp [h8,Env.get]
 | x::xs,i,t=>by
  simp only [h8,Env.get,N8 xs (i+1) t]
  by_cases R:t=i
  ·subst R;simp
  ·by_cases aa:i≤t
   ·have:t - i=(t - (i+1))+1:=by omega
    simp [R,aa,show i+1≤t by omega,this]
   ·simp [R,aa,show ¬i+1≤t by omega]
theorem N9:∀(xs:List AV) (i:Nat),∀p∈h8 i xs,i≤p.1
 | [],_,p,h=>by simp [h8] at h
 | x::xs,i,p,h=>by
  simp only [h8,List.mem_cons] at h
  rcases h with rfl | h
  ·simp
  ·have:=N9 xs (i+1) p h;omega
theorem DV:∀(xs:List AV) (i:Nat),(h8 i xs).Pairwise fun p q=>p.1<q.1
 | [],_=>.nil
 | x::xs,i=>by
  simp only [h8,List.pairwise_cons]
  exact ⟨fun p ao=>by have:=N9 xs (i+1) p ao;simp;omega,DV xs (i+1)⟩
theorem zt {f k:Nat} {c8:ay} {dT:List a2} (h:a8 P f k c8 dT=true):hQ P f=true∧∃fn c,P.funcs[f]?=some fn∧fn.body=some c ∧
  fD P fn.ntmps c c8=true∧oq P fn.results.toList dT=true∧k≤fn.ntmps:=by
 simp only [a8,Bool.and_eq_true] at h
 obtain ⟨a0,h⟩:=h
 split at h
 ·rename_i fn aP
  split at h
  ·rename_i c ah
   simp only [Bool.and_eq_true,decide_eq_true_eq] at h
   exact ⟨a0,fn,c,aP,ah,h.1.1,h.1.2,h.2⟩
  ·cases h
 ·cases h
theorem Oa {f:Nat} {c8:ay} {dT:List a2} {xs:List AV} {vs:List Value} {H:List aM} {Q:ae→Prop} (aP:a8 P f xs.length c8 dT=true)
  (h:Rel P gl 0 g (jI H) ob w) (ax:bW g xs vs) (aE:∀(i:Nat) x v,xs[i]?=some x→vs[i]?=some v→dX P g w (.var i) x v)
  (he:exec P gl D c8 ⟨h8 0 xs,H⟩ (qB Q)) (qs:∀s,Q s→(mw s.env dT).isSome=true) :
  Calls P f vs.toArray w fun e w'=>∃v r s' g' bO wB,e=.returned v∧Q s'∧mw s'.env dT=some r∧dj g w g' w'∧Rel P gl wB g' s' bO w'∧aU g' r v ∧
   (cc r∨∃t,dT=[.t t]∧dX P g' w' (.var t) r v):=by
 obtain ⟨_,fn,c,R,aa,al,aY,bn⟩:=zt aP
 have hlen:vs.length=xs.length:=ax.get.1
 have je:Rel P gl fn.ntmps g ⟨h8 0 xs,H⟩ { tmps:=vs.toArray++Array.replicate (fn.ntmps - vs.toArray.size) undef,defers:=[] } w:=by
  refine ⟨DV xs 0,by simp;omega,rfl,fun t e he=>?_,h.heap,h.dY,h.own,h.e4,h.er⟩
  rw [N8] at he
  simp only [Nat.zero_le,if_true,Nat.sub_zero,Option.map_eq_some_iff] at he
  obtain ⟨x,ai,rfl⟩:=he
  obtain ⟨v,an,ar⟩:=ax.get.2 t x ai
  have bz:t<vs.length:=by
   rcases Nat.lt_or_ge t vs.length with h | h
   ·exact h
   ·simp [List.getElem?_eq_none h] at an
  exact ⟨v,by simp [Array.getElem?_append,bz,←an],ar,aE t x v ai an⟩
 refine calls_of_wp R aa (wp_mono (acu c8 c al _ _ g _ w je he) ?_)
 rintro e de b3 ⟨ex,s1,bX,rfl,bL,hle,aA⟩
 have key:Q s1→de.defers=[]∧∃v,(results fn de.tmps).run P b3=.ok v b3∧∃bP r s' g' bO wB,Ending.returned v=.returned bP∧Q s'∧mw s'.env dT=some r∧dj g w g' b3∧Rel P gl wB g' s' bO b3∧aU g' r bP ∧
   (cc r∨∃t,dT=[.t t]∧dX P g' b3 (.var t) r bP):=fun bL=>by
  obtain ⟨r,iZ⟩:=Option.isSome_iff_exists.1 (qs s1 bL)
  obtain ⟨v,an,ar,aO⟩:=acA aA aY iZ
  exact ⟨aA.defers,v,an,v,r,s1,bX,de,_,rfl,bL,iZ,hle,aA,ar,aO⟩
 cases ex with
 | normal=>exact key bL
 | exit i=>exact bL.elim
 | ret=>exact key bL
end
end AM
/-! The abstract machine's calls from its bodies. -/
namespace AM
open Go
section
variable {P:Program} {gl:aR} {D:cv} {N:Nat} {g g':a5} {s s':ae} {a:Act} {w w':World} {o:Oper}
theorem ec.intro {f:Nat} {c8:ay} {dT:List a2} {xs:List AV} {H:List aM} {K:AV→List aM→Prop} (aP:a8 P f xs.length c8 dT=true)
  (he:exec P gl D c8 ⟨h8 0 xs,H⟩ (qB fun s=>∃r,mw s.env dT=some r∧K r s.heap)):ec P gl f xs H K:=by
 refine ⟨(zt aP).1,fun g w vs h ax aE=>(Oa aP h ax aE he fun s ⟨r,aA,_⟩=>by simp [aA]).mono ?_⟩
 rintro e w' ⟨v,r,s',g',bO,wB,rfl,⟨cQ,iZ,cW⟩,aA,hle,gb,fR,dx⟩
 rw [aA] at iZ;simp at iZ;subst iZ
 let bd:Nat→dh:=fun b=>match g'.bd b with
  | .outer=>.outer
  | .bt id=>.bt id
  | .oc id i=>.oc id i
  | .var _=>.var 0
  | _=>.none
 have bz:∀b,bd b≠.none→b<w'.heap.size:=fun b ah=>gb.own b fun e=>ah (by simp [bd,e])
 refine ⟨v,r,s'.heap,⟨g'.γ,bd,g'.b4⟩,rfl,cW,⟨⟨hle.γ,hle.b4⟩,fun b ah=>?_,hle.size,hle.os,hle.out⟩,gb.M4 bd ?_ bz,fR.mono (⟨fun _ _ _ h=>h,fun _ _ h=>h⟩:GhLe g' ⟨g'.γ,bd,g'.b4⟩),?_⟩
 ·obtain ⟨an,ar,aO⟩:=hle.outer b ah
  exact ⟨by simp [bd,an],ar,aO⟩
 ·rintro b (⟨id,e⟩ | ⟨id,i,e⟩)<;>simp [bd,e]
 ·rcases dx with a1 | ⟨t,_,dx⟩
  ·exact a1.fo
  ·intro e sz ys ai
   obtain ⟨j,z,us,bK,cg,cS,eC,eK,iY,iG,hv,kD⟩:=dx e sz ys ai
   exact ⟨j,z,us,bK,cg,cS,eC,eK,iY,iG,hv,fun b ah=>⟨by simp [bd,(kD b ah).1],(kD b ah).2⟩⟩
theorem aU.tR {x:AV} {v:Value} (h:aU g x v) (ai:x.arg=true) (g':a5) (aK:g'.γ=g.γ):aU g' x v :=
 (M1 h ai).mono ⟨by rw [aK];exact fun _ _ _ h=>h,fun _ _ h=>by cases h⟩
theorem bW.tR {xs:List AV} {vs:List Value} (h:bW g xs vs) (ai:xs.all AV.arg=true) (g':a5) (aK:g'.γ=g.γ):bW g' xs vs :=
 (Dp h ai).mono ⟨by rw [aK];exact fun _ _ _ h=>h,fun _ _ h=>by cases h⟩
theorem aU.DW {x:AV} {v:Value} (h:aU g x v) (ai:x.res=true) (g':a5) (aK:g'.γ=g.γ):aU g' x v:=by
 cases x with
 | list own sz xs =>
  cases h with
  | pure _ _ h=>exact .pure _ _ (by rw [aK];exact h)
  | own e _ _ _ h=>exact .own _ _ _ _ (by rw [aK];exact h)
 | bw vs =>
  cases h with
  | pure _ _ h=>cases h
  | bw _ ws h=>exact .bw _ _ (h.tR ai g' aK)
 | _=>exact h.tR ai g' aK
theorem zu {x:AV} (h:x.arg=true):cc x:=by
 intro e sz xs ai;subst ai;simp [AV.arg,AV.pure,AV.dw] at h
theorem a4.intro {f:Nat} {c8:ay} {dT:List a2} {xs:List AV} {r:AV} (aP:a8 P f xs.length c8 dT=true) (ai:xs.all AV.arg=true) (aA:r.res=true)
  (he:exec P gl D c8 ⟨h8 0 xs,[]⟩ (qB fun s=>mw s.env dT=some r)):a4 P gl f xs r:=by
 intro γ w vs jZ wC ax
 let g:a5:=⟨γ,fun b=>if b<w.heap.size then .outer else .none,fun _=>none⟩
 have gb:Rel P gl 0 g (jI []) ob w :=
  ⟨.nil,rfl,rfl,fun t e he=>by simp [jI,Env.get] at he,fun id bt bh=>by simp [jI] at bh,jZ,fun b ah=>by
   by_cases h:b<w.heap.size
   ·exact h
   ·simp [g,h] at ah,wC,fun id b h=>by cases h⟩
 have jd:∀x∈xs,cc x:=fun x k3=>zu (List.all_eq_true.1 ai x k3)
 refine (Oa aP gb (ax.tR ai g rfl) (fun i x v h _=>(jd x (List.mem_of_getElem? h)).fo) he fun s h=>by simp [h]).mono ?_
 rintro e w' ⟨v,cQ,s',g',bO,wB,rfl,iZ,DX,hle,wD,fR,dx⟩
 rw [iZ] at DX;simp at DX;subst DX
 have jH:∀b,b<w.heap.size→g'.bd b=.outer∧w'.heap[b]?=w.heap[b]?∧∀o,g'.γ b o=γ b o:=fun b ah=>hle.outer b (by simp [g,ah])
 refine ⟨v,g'.γ,rfl,hle.γ,hle.size,fun b ah=>(jH b ah).2,⟨hle.os,hle.out⟩,wD.dY,fR.DW aA _ rfl,?_⟩
 rcases dx with a1 | ⟨t,_,dx⟩
 ·exact a1.fo
 ·intro e sz ys ai
  obtain ⟨j,z,us,bK,cg,cS,eC,eK,iY,iG,hv,kD⟩:=dx e sz ys ai
  refine ⟨j,z,us,bK,cg,cS,eC,eK,iY,iG,hv,fun b ah=>⟨?_,(kD b ah).2⟩⟩
  have q:=(kD b ah).1
  have:¬b<w.heap.size:=fun h=>by rw [(jH b h).1] at q;cases q
  simp [oa,this]
theorem hD:∀(c8:ay) {s:ae} {Q tS:fO→ae→Prop},exec P gl D c8 s Q→(∀e s,Q e s→tS e s)→exec P gl D c8 s tS
 | .skip,_,_,_,h,bL=>bL _ _ h
 | .U _ _,_,_,_,h,bL=>rN (fun _ h=>bL _ _ h) h
 | .seq x y,_,_,_,h,bL=>hD x h fun e s h=>by
  cases e with
  | normal=>exact hD y h bL
  | exit i=>exact bL _ _ h
  | ret=>exact bL _ _ h
 | .cond c x y,s,_,_,h,bL=>by
  simp only [exec] at h ⊢
  split at h
  ·split at h
   ·rw [if_pos (by assumption)];exact hD x h bL
   ·rw [if_neg (by assumption)];exact hD y h bL
  ·exact h.elim
 | .block i c,_,_,_,h,bL=>hD c h fun e s h=>by
  cases e with
  | normal=>exact bL _ _ h
  | exit j =>
   simp only at h ⊢
   split at h
   ·rw [if_pos (by assumption)];exact bL _ _ h
   ·rw [if_neg (by assumption)];exact bL _ _ h
  | ret=>exact bL _ _ h
 | .loop c,_,_,_,h,bL=>fun X bp=>h X fun s aS=>bp s (hD c aS fun e s h=>by
  cases e with
  | normal=>exact h
  | exit i=>exact bL _ _ h
  | ret=>exact bL _ _ h)
 | .exit _,_,_,_,h,bL=>bL _ _ h
 | .ret,_,_,_,h,bL=>bL _ _ h
 | .sQ t c,s,_,_,h,bL=>by
  simp only [exec] at h ⊢
  split at h
  ·exact fun aN=>hD c (h aN) bL
  ·exact fun aN=>hD c (h aN) bL
  ·exact h.elim
 | .drop _ c,_,_,_,h,bL=>hD c h bL
 | .kill _ c,_,_,_,h,bL=>hD c h bL
 | .jV t e sz c,s,_,_,h,bL=>by
  simp only [exec] at h ⊢
  split at h
  ·exact hD c h bL
  ·exact h.elim
 | .mX t off e sz c,s,_,_,h,bL=>by
  simp only [exec] at h ⊢
  split at h
  ·exact hD c h bL
  ·exact h.elim
 | .bad,_,_,_,h,_=>h.elim
theorem Ob {c:ay} {s:ae} {Q:fO→ae→Prop} (h:exec P gl D c s fun e s'=>match e with | .normal=>exec P gl D (.loop c) s' Q | e=>Q e s'):exec P gl D (.loop c) s Q:=by
 intro X bp
 refine bp s (hD c h fun e s' h=>?_)
 cases e with
 | normal=>exact h X bp
 | exit i=>exact h
 | ret=>exact h
end
end AM
/-! An executable interpreter of the abstract machine, with sets of outcomes; it is sound. -/
namespace AM
open Go
mutual
def AV.beq:AV→AV→Bool
 | .bool a,.bool b=>a==b
 | .int k a,.int k' b=>decide (k=k')&&a==b
 | .str a,.str b=>a==b
 | .dP,.dP=>true
 | .ptr a o,.ptr b bZ=>a==b&&o==bZ
 | .cU a,.cU b=>AV.jM a b
 | .list e sz a,.list bH b8 b=>e==bH&&sz==b8&&AV.jM a b
 | .map a,.map b=>a==b
 | .eN,.eN=>true
 | .fn f a,.fn eR b=>f==eR&&AV.jM a b
 | .gz,.gz=>true
 | .gm,.gm=>true
 | .aH a,.aH b=>a==b
 | .fb a,.fb b=>a==b
 | .eE a,.eE b=>a==b
 | .bI a b c d,.bI bO bE fg ho=>a==bO&&b==bE&&c==fg&&d==ho
 | .agg a,.agg b=>AV.jM a b
 | .bw a,.bw b=>AV.jM a b
 | _,_=>false
def AV.jM:List AV→List AV→Bool
 | [],[]=>true
 | x::r,y::cQ=>AV.beq x y&&AV.jM r cQ
 | _,_=>false
end
mutual
theorem AV.beq_eq:∀(x y:AV),AV.beq x y=true→x=y
 | .bool a,y,h=>by cases y<;>simp [AV.beq] at h;rw [h]
 | .int k a,y,h=>by cases y<;>simp [AV.beq] at h;rw [h.1,h.2]
 | .str a,y,h=>by cases y<;>simp [AV.beq] at h;rw [h]
 | .dP,y,h=>by cases y<;>simp [AV.beq] at h;rfl
 | .ptr a o,y,h=>by cases y<;>simp [AV.beq] at h;rw [h.1,h.2]
 | .cU a,y,h=>by cases y<;>simp [AV.beq] at h;rw [AV.ns a _ h]
 | .list e sz a,y,h=>by cases y<;>simp [AV.beq] at h;rw [AV.ns a _ h.2,h.1.1,h.1.2]
 | .map a,y,h=>by cases y<;>simp [AV.beq] at h;rw [h]
 | .eN,y,h=>by cases y<;>simp [AV.beq] at h;rfl
 | .fn f a,y,h=>by cases y<;>simp [AV.beq] at h;rw [AV.ns a _ h.2,h.1]
 | .gz,y,h=>by cases y<;>simp [AV.beq] at h;rfl
 | .gm,y,h=>by cases y<;>simp [AV.beq] at h;rfl
 | .aH a,y,h=>by cases y<;>simp [AV.beq] at h;rw [h]
 | .fb a,y,h=>by cases y<;>simp [AV.beq] at h;rw [h]
 | .eE a,y,h=>by cases y<;>simp [AV.beq] at h;rw [h]
 | .bI a b c d,y,h=>by cases y<;>simp [AV.beq] at h;rw [h.1.1.1,h.1.1.2,h.1.2,h.2]
 | .agg a,y,h=>by cases y<;>simp [AV.beq] at h;rw [AV.ns a _ h]
 | .bw a,y,h=>by cases y<;>simp [AV.beq] at h;rw [AV.ns a _ h]
theorem AV.ns:∀(xs ys:List AV),AV.jM xs ys=true→xs=ys
 | [],ys,h=>by cases ys<;>simp [AV.jM] at h;rfl
 | x::xs,ys,h=>by
  cases ys<;>simp [AV.jM] at h
  rw [AV.beq_eq x _ h.1,AV.ns xs _ h.2]
end
def wE:List (AV×AV)→List (AV×AV)→Bool
 | [],[]=>true
 | (k,v)::r,(k',bP)::cQ=>AV.beq k k'&&AV.beq v bP&&wE r cQ
 | _,_=>false
theorem Oc:∀(xs ys:List (AV×AV)),wE xs ys=true→xs=ys
 | [],ys,h=>by cases ys<;>simp [wE] at h;rfl
 | (k,v)::xs,ys,h=>by
  cases ys<;>simp [wE] at h
  rename_i y ys
  obtain ⟨k',bP⟩:=y
  simp at h
  rw [AV.beq_eq k _ h.1.1,AV.beq_eq v _ h.1.2,Oc xs _ h.2]
def aM.beq:aM→aM→Bool
 | .cells a,.cells b=>AV.jM a b
 | .buf e a,.buf bH b=>e==bH&&AV.jM a b
 | .map n a,.map n' b=>n==n'&&wE a b
 | .iter m s a,.iter gH s' b=>m==gH&&s==s'&&AV.jM a b
 | .dead,.dead=>true
 | _,_=>false
theorem aM.beq_eq (x y:aM) (h:aM.beq x y=true):x=y:=by
 cases x<;>cases y<;>simp [aM.beq] at h
 ·rw [AV.ns _ _ h]
 ·rw [h.1,AV.ns _ _ h.2]
 ·rw [h.1,Oc _ _ h.2]
 ·rw [h.1.1,h.1.2,AV.ns _ _ h.2]
 ·rfl
def r3:List aM→List aM→Bool
 | [],[]=>true
 | x::r,y::cQ=>x.beq y&&r3 r cQ
 | _,_=>false
theorem DY:∀(xs ys:List aM),r3 xs ys=true→xs=ys
 | [],ys,h=>by cases ys<;>simp [r3] at h;rfl
 | x::xs,ys,h=>by
  cases ys<;>simp [r3] at h
  rw [aM.beq_eq x _ h.1,DY xs _ h.2]
abbrev iN:=AV×List aM
def zv (a b:iN):Bool:=a.1.beq b.1&&r3 a.2 b.2
theorem Od {a b:iN} (h:zv a b=true):a=b:=by
 simp [zv] at h
 exact Prod.ext (AV.beq_eq _ _ h.1) (DY _ _ h.2)
def dedup:List iN→List iN
 | []=>[]
 | x::r=>let cQ:=dedup r;if cQ.any (zv x) then cQ else x::cQ
theorem Oe {x:iN}:∀{l:List iN},x∈l→x∈dedup l
 | [],h=>by simp at h
 | y::r,h=>by
  simp only [dedup]
  rcases List.mem_cons.1 h with rfl | h
  ·split
   ·rename_i aZ
    rw [List.any_eq_true] at aZ
    obtain ⟨z,bx,acB⟩:=aZ
    rw [Od acB];exact bx
   ·simp
  ·have:=Oe h
   split
   ·exact this
   ·exact List.mem_cons_of_mem _ this
def lT {α β:Type} (f:α→Option (List β)):List α→Option (List β)
 | []=>some []
 | a::r=>match f a with
  | none=>none
  | some x=>match r with
   | []=>some x
   | _::_=>match lT f r with | none=>none | some y=>some (x++y)
theorem qC {α β:Type} {f:α→Option (List β)}:∀{l:List α} {out:List β},lT f l=some out→∀a∈l,∃x,f a=some x∧∀b∈x,b∈out
 | [],_,_,a,aZ=>by simp at aZ
 | a::r,out,h,bO,aZ=>by
  simp only [lT] at h
  split at h
  ·cases h
  ·rename_i x ai
   split at h
   ·simp at h;subst h
    simp at aZ;subst aZ
    exact ⟨x,ai,fun b ah=>ah⟩
   ·split at h
    ·cases h
    ·rename_i y aT
     simp at h;subst h
     rcases List.mem_cons.1 aZ with rfl | aZ
     ·exact ⟨x,ai,fun b ah=>by simp [ah]⟩
     ·obtain ⟨z,R,aa⟩:=qC aT bO aZ
      exact ⟨z,R,fun b ah=>by simp [aa b ah]⟩
def tT {α β:Type} (f:α→Option (List β)):List α→Option (List β)
 | []=>none
 | a::r=>lT f (a::r)
theorem wF {α β:Type} {f:α→Option (List β)} {l:List α} {out:List β} (h:tT f l=some out):lT f l=some out∧∃a,a∈l:=by
 cases l with
 | nil=>cases h
 | cons a r=>exact ⟨h,a,by simp⟩
abbrev hE:=Nat→List AV→List aM→Option (List iN)
section
variable (gl:aR) (call:hE)
def fin (s:ae) (d:Option Nat) (p:iN):Option (List ae):=(({ s with heap:=p.2 }:ae).ef d p.1).map fun s=>[s]
def qD:List aM→Bool
 | []=>true
 | .dead::r=>qD r
 | _=>false
def wG:List aM→List aM→Bool
 | [],r=>qD r
 | x::r,y::cQ=>x.beq y&&wG r cQ
 | _::_,[]=>false
def Of (s:ae) (d:Option Nat) (p:iN):Option (List ae):=if wG s.heap p.2 then fin s d p else none
def tU (f:Nat) (xs:List AV):Option AV:=match call f xs [] with
 | some ((r,_)::rest)=>if r.res&&rest.all (fun p=>p.1.beq r) then some r else none
 | _=>none
def kK (s:ae):bR→Option (List ae)
 | .aQ d f xs=>match dQ gl s.env xs with
  | some vs=>if (vs.map AV.aL).all AV.arg then match tU call f (vs.map AV.aL) with
   | some r=>(s.ef d r).map fun s=>[s]
   | none=>none
   else none
  | none=>none
 | .bF d f xs=>match dQ gl s.env xs with
  | some vs=>(call f (vs.map AV.aL) s.heap).bind (tT (fin s d))
  | none=>none
 | .g1 d f xs=>match dQ gl s.env xs with
  | some vs=>(call f (vs.map AV.aL) s.heap).bind (tT (Of s d))
  | none=>none
 | .eU d x xs=>match bl gl s.env x,dQ gl s.env xs with
  | some (.fn f eu),some vs=>(call f (vs.map AV.aL++eu.map AV.aL) s.heap).bind (tT (fin s d))
  | _,_=>none
 | .hK d f u xs=>match Env.get s.env u,dQ gl s.env xs with
  | some (.v (.list (some e) sz ys)),some vs=>(call f (.list (some e) sz ys::vs.map AV.aL) s.heap).bind (tT (fin { s with env:=s.env.ins u (.v (.list none sz ys)) } d))
  | some (.v v),some vs=>(call f (v.aL::vs.map AV.aL) s.heap).bind (tT (fin s d))
  | _,_=>none
 | .hs d it=>match (bl gl s.env it).bind (sS s.heap) with
  | some (id,m,since,seen,es)=>match es with
   | []=>(s.put d (.bw [.bool false])).map fun s=>[s]
   | bB::es=>lT (fun e=>(({ s with heap:=s.heap.set id (.iter m since (seen++[e.1])) }:ae).put d (.bw [.bool true,e.1,e.2.aL])).map fun s=>[s]) (bB::es)
  | none=>none
 | o=>(au gl s o).map fun s=>[s]
def zw:List ev→ae→Option (List ae)
 | [],s=>some [s]
 | it::r,s=>match h3 s.env it.g with
  | some true=>match kK gl call s it.o with
   | some [s']=>zw r s'
   | some l=>lT (zw r) l
   | none=>none
  | some false=>match fT it.o with
   | some d=>match s.put d (.bw []) with | some s'=>zw r s' | none=>none
   | none=>zw r s
  | none=>none
def tV (body:ae→Option (List (fO×ae))):Nat→ae→Option (List (fO×ae))
 | 0,_=>none
 | n+1,s=>match body s with
  | some [(.normal,s')]=>tV body n s'
  | some l=>lT (fun p=>match p.1 with | .normal=>tV body n p.2 | e=>some [(e,p.2)]) l
  | none=>none
def zx (id:Nat):fO×ae→fO×ae
 | (.exit i,s)=>if i=id then (.normal,s) else (.exit i,s)
 | p=>p
def wH (dT:List a2):fO×ae→Option (List iN)
 | (.exit _,_)=>none
 | (_,s)=>(mw s.env dT).map fun r=>[(r,s.heap)]
end
abbrev zy:=Nat→Option (ay×List a2×Nat)
section
variable (gl:aR) (T:zy) (tW:hE) (gS:Nat)
end
section
variable {P:Program} {gl:aR} {D:cv} {call:hE}
def jj (P:Program) (gl:aR) (call:hE):Prop:=∀f xs H outs,call f xs H=some outs→ec P gl f xs H fun r H'=>(r,H')∈outs
def Og (P:Program) (T:zy):Prop:=∀f c8 dT k,T f=some (c8,dT,k)→a8 P f k c8 dT=true
theorem a4.Oh {f:Nat} {xs:List AV} {r:AV} (h:ec P gl f xs [] fun cQ _=>cQ=r) (ai:xs.all AV.arg=true) (aA:r.res=true):a4 P gl f xs r:=by
 intro γ w vs jZ wC ax
 let g:a5:=⟨γ,fun b=>if b<w.heap.size then .outer else .none,fun _=>none⟩
 have gb:Rel P gl 0 g (jI []) ob w :=
  ⟨.nil,rfl,rfl,fun t e he=>by simp [jI,Env.get] at he,fun id bt bh=>by simp [jI] at bh,jZ,fun b ah=>by
   by_cases h:b<w.heap.size
   ·exact h
   ·simp [g,h] at ah,wC,fun id b h=>by cases h⟩
 have jd:∀x∈xs,cc x:=fun x k3=>zu (List.all_eq_true.1 ai x k3)
 refine (h.2 g w vs gb (ax.tR ai g rfl) (fun i x v h _=>(jd x (List.mem_of_getElem? h)).fo)).mono ?_
 rintro e w' ⟨v,cQ,H',g',rfl,rfl,hle,wD,fR,dx⟩
 have jH:∀b,b<w.heap.size→g'.bd b=.outer∧w'.heap[b]?=w.heap[b]?∧∀o,g'.γ b o=γ b o:=fun b ah=>hle.outer b (by simp [g,ah])
 refine ⟨v,g'.γ,rfl,hle.γ,hle.size,fun b ah=>(jH b ah).2,⟨hle.os,hle.out⟩,wD.dY,fR.DW aA _ rfl,?_⟩
 intro e sz ys ai
 obtain ⟨j,z,us,bK,cg,cS,eC,eK,iY,iG,hv,kD⟩:=dx e sz ys ai
 refine ⟨j,z,us,bK,cg,cS,eC,eK,iY,iG,hv,fun b ah=>⟨?_,(kD b ah).2⟩⟩
 have q:=(kD b ah).1
 have:¬b<w.heap.size:=fun h=>by rw [(jH b h).1] at q;cases q
 simp [oa,this]
theorem qE {s:ae} {d:Option Nat} {outs:List iN} {l:List ae} (h:lT (fin s d) outs=some l) {r:AV} {H:List aM} (hm:(r,H)∈outs):match ({ s with heap:=H }:ae).ef d r with | some s'=>s'∈l | none=>False:=by
 obtain ⟨x,R,aa⟩:=qC h _ hm
 simp only [fin,Option.map_eq_some_iff] at R
 obtain ⟨s',al,rfl⟩:=R
 rw [al]
 exact aa s' (by simp)
theorem Oi:∀{l:List aM},qD l=true→l=List.replicate l.length .dead
 | [],_=>rfl
 | .dead::r,h=>by
  simp only [qD] at h
  rw [List.length_cons,List.replicate_succ,←Oi h]
 | .cells _::_,h=>by simp [qD] at h
 | .buf _ _::_,h=>by simp [qD] at h
 | .map _ _::_,h=>by simp [qD] at h
 | .iter _ _ _::_,h=>by simp [qD] at h
theorem Oj:∀{H H':List aM},wG H H'=true→∃n,H'=H++List.replicate n .dead
 | [],H',h=>⟨_,by rw [List.nil_append];exact Oi h⟩
 | x::H,[],h=>by simp [wG] at h
 | x::H,y::H',h=>by
  simp only [wG,Bool.and_eq_true] at h
  obtain ⟨n,a1⟩:=Oj h.2
  exact ⟨n,by rw [aM.beq_eq _ _ h.1,a1];rfl⟩
theorem Ok (hF:jj P gl call) {f:Nat} {xs:List AV} {r:AV} (aZ:xs.all AV.arg=true) (h:tU call f xs=some r):a4 P gl f xs r:=by
 unfold tU at h
 split at h
 ·rename_i hS H rest af
  split at h
  ·rename_i aA
   simp only [Option.some.injEq] at h;subst h
   simp only [Bool.and_eq_true] at aA
   refine a4.Oh ((hF _ _ _ _ af).mono fun cQ H' hm=>?_) aZ aA.1
   rcases List.mem_cons.1 hm with hm | hm
   ·simp at hm;exact hm.1
   ·have:=List.all_eq_true.1 aA.2 _ hm
    exact AV.beq_eq _ _ this
  ·cases h
 ·cases h
theorem acC (hF:jj P gl call) {s:ae} {o:bR} {l:List ae} (h:kK gl call s o=some l):b0 P gl (tU call) s (fun s'=>s'∈l) o:=by
 have nn:∀bZ,bZ=o→(au gl s bZ).map (fun s=>[s])=some l→(match au gl s bZ with | some s'=>s'∈l | none=>False):=by
  rintro _ rfl h
  rw [Option.map_eq_some_iff] at h
  obtain ⟨s',R,rfl⟩:=h
  rw [R];simp
 cases o<;>first
  | exact nn _ rfl h
  | skip
 case aQ d f xs =>
  simp only [kK] at h
  simp only [b0]
  split at h
  ·rename_i vs fQ
   simp only [fQ]
   split at h
   ·rename_i Ol
    split at h
    ·rename_i r aA
     rw [Option.map_eq_some_iff] at h
     obtain ⟨s',R,rfl⟩:=h
     refine ⟨Ol,?_⟩
     rw [aA]
     refine ⟨Ok hF Ol aA,by rw [R];simp⟩
    ·cases h
   ·cases h
  ·cases h
 case bF d f xs =>
  simp only [kK] at h
  simp only [b0]
  split at h
  ·rename_i vs fQ
   simp only [fQ]
   obtain ⟨outs,R,aa⟩:=bind_some h
   obtain ⟨aa,⟨hS,j8⟩,ck⟩:=wF aa
   exact ⟨(hF _ _ _ _ R).mono fun r H hm=>qE aa hm,hS,j8,qE aa ck⟩
  ·cases h
 case g1 d f xs =>
  simp only [kK] at h
  simp only [b0]
  split at h
  ·rename_i vs fQ
   simp only [fQ]
   obtain ⟨outs,R,aa⟩:=bind_some h
   obtain ⟨aa,⟨hS,j8⟩,ck⟩:=wF aa
   have key:∀r H,(r,H)∈outs→(∃n,H=s.heap++List.replicate n .dead)∧match ({ s with heap:=H }:ae).ef d r with | some s'=>s'∈l | none=>False:=by
    intro r H hm
    obtain ⟨x,al,aY⟩:=qC aa _ hm
    simp only [Of] at al
    split at al
    ·rename_i ao
     refine ⟨Oj ao,?_⟩
     simp only [fin,Option.map_eq_some_iff] at al
     obtain ⟨s',bn,rfl⟩:=al
     rw [bn]
     exact aY s' (by simp)
    ·cases al
   exact ⟨(hF _ _ _ _ R).mono fun r H hm=>key r H hm,hS,j8,key hS j8 ck⟩
  ·cases h
 case eU d x xs =>
  simp only [kK] at h
  simp only [b0]
  split at h
  ·rename_i f eu vs aP fQ
   rw [aP,fQ]
   obtain ⟨outs,R,aa⟩:=bind_some h
   obtain ⟨aa,⟨hS,j8⟩,ck⟩:=wF aa
   exact ⟨(hF _ _ _ _ R).mono fun r H hm=>qE aa hm,hS,j8,qE aa ck⟩
  ·cases h
 case hK d f u xs =>
  simp only [kK] at h
  simp only [b0]
  split at h
  ·rename_i e sz ys vs hu fQ
   simp only [hu,fQ]
   obtain ⟨outs,R,aa⟩:=bind_some h
   obtain ⟨aa,⟨hS,j8⟩,ck⟩:=wF aa
   exact ⟨(hF _ _ _ _ R).mono fun r H hm=>qE aa hm,hS,j8,qE aa ck⟩
  ·rename_i v vs jd hu fQ
   obtain ⟨outs,R,aa⟩:=bind_some h
   split
   ·rename_i e sz ys us g4 tX
    rw [hu] at g4;simp at g4;subst g4
    exact (jd _ _ _ rfl).elim
   ·rename_i bP DZ _ g4 tX
    rw [hu] at g4;simp at g4;subst g4
    rw [fQ] at tX;simp at tX;subst tX
    obtain ⟨aa,⟨hS,j8⟩,ck⟩:=wF aa
    exact ⟨(hF _ _ _ _ R).mono fun r H hm=>qE aa hm,hS,j8,qE aa ck⟩
   ·rename_i ai
    exact ai _ _ hu fQ
  ·cases h
 case hs d it =>
  simp only [kK] at h
  simp only [b0]
  split at h
  ·rename_i id m since seen es g6
   simp only [g6]
   cases es with
   | nil =>
    simp only at h ⊢
    rw [Option.map_eq_some_iff] at h
    obtain ⟨s',R,rfl⟩:=h
    rw [R];simp
   | cons bB es =>
    simp only at h ⊢
    intro e he
    obtain ⟨x,R,aa⟩:=qC h e he
    rw [Option.map_eq_some_iff] at R
    obtain ⟨s',al,rfl⟩:=R
    rw [al]
    exact aa s' (by simp)
  ·cases h
end
end AM
