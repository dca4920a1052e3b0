/- An abstract machine for the program of the seat, and what of the given program it does, part 13 of 17. Conditions: none. -/
import Derived.Test.YtjpfdkecffnlbaaGreatDoorAm11
import Derived.ChangeArms
set_option linter.unusedVariables false
set_option linter.unusedSimpArgs false
/-! Terms of the program as data, and the reading of arguments of their types. -/
namespace AM
open Go
inductive aj where
 | mk (name:List UInt8) (args:List aj)
def aj.name:aj→List UInt8 | .mk n _=>n
def aj.args:aj→List aj | .mk _ l=>l
mutual
def aj.enc:aj→AV | .mk n l=>.agg [.str n,.list none 2 (bC l)]
def bC:List aj→List AV | []=>[] | t::r=>t.enc::bC r
end
def aj.cells (t:aj):List AV:=[.str t.name,.list none 2 (bC t.args)]
def cN (l:List aj):AV:=.list none 2 (bC l)
theorem aj.qO (t:aj):t.enc=.agg t.cells:=by cases t;simp only [aj.enc,aj.cells,aj.name,aj.args]
theorem ln (l:List aj):bC l=l.map aj.enc:=by
 induction l with
 | nil=>simp only [bC,List.map_nil]
 | cons t r ih=>simp only [bC,List.map_cons,ih]
structure Pe (P:Program) (T L S:TypeId):Prop where
 cL:∃f0 f1:Field,P.underlying T=some (.struct #[f0,f1])∧f0.type=S∧f0.offset=0∧f1.type=L∧f1.offset=1
 dy:P.underlying L=some (.slice T)
 lk:P.underlying S=some .string
 Pf:P.cellsOf T=2
 afq:P.cellsOf L=1
 FB:P.cellsOf S=1
structure Pg {H:Type} (nA:DataW H→Nat):Prop where
 str:∀b,b.length≤nA (.lit (.string b))
 len:∀e r,e.length≤nA (.slice e r)
 slice:∀e r,∀d∈e,nA d≤nA (.slice e r)
 agg:∀l,∀d∈l,nA d≤nA (.agg l)
section
variable {H:Type} {enc:TypeId×Value→H} {P:Program} {w:World} {base:Nat} {spare:Nat→Bool} {held:Bool} {T L S:TypeId} {γ:dp} {nA:DataW H→Nat}
theorem Ph {b:Nat}:∀{cs:List AV} {ws:List Value} {off:Nat},e3 γ cs ws→(∀(i:Nat) v,ws[i]?=some v→γ b (off+i)=some v)→dt γ b off cs
 | [],_,_,_,_=>.nil _ _
 | c::cs,_,off,.cons _ _ v ws R aa al,h=>by
  refine .cons _ _ _ _ v (by simpa using h 0 v (by simp)) R aa (Ph al fun i u hu=>?_)
  have:=h (i+1) u (by simpa using hu)
  rwa [show off+(i+1)=off+1+i by omega] at this
theorem Pj {b:Nat}:∀(n off:Nat),(∀i,i<n→∃t:aj,dt γ b (off+i*2) t.cells)→∃bk:List aj,bk.length=n∧dd γ b off 2 (bC bk)
 | 0,_,_=>⟨[],rfl,by simp only [bC];exact .nil _ _ _⟩
 | n+1,off,h=>by
  obtain ⟨t,aF⟩:=h 0 (by omega)
  obtain ⟨bk,R,aa⟩:=Pj n (off+2) fun i av=>by
   have:=h (i+1) (by omega)
   rwa [show off+(i+1)*2=off+2+i*2 by omega] at this
  refine ⟨t::bk,by simp [R],?_⟩
  simp only [bC]
  refine .cons _ _ _ _ _ ?_ ?_ aa
  ·rw [t.qO];rfl
  ·rw [t.qO];simpa [AV.cells] using aF
theorem afr {a:Addr} {n:Nat} {cs:List Value} (h:w.cells? base a n=some cs):cs.length=n∧∀i v,cs[i]?=some v→w.cell? (a.add i)=some v:=by
 unfold World.cells? at h
 split at h
 ·have aN:=mapM_some_length h
  simp at aN
  refine ⟨aN,fun i v ax=>?_⟩
  have av:i<n:=by have:=(List.getElem?_eq_some_iff.1 ax).1;omega
  have:=mapM_some_get h i i (by simp [av])
  rw [this,ax]
 ·cases h
theorem afs {a:Addr} {v:Value} (h:w.cell? a=some v):a.spot=none:=by
 unfold World.cell? at h
 split at h
 ·split at h
  ·cases h
  ·rename_i aS;simpa using aS
 ·cases h
theorem z0 (ah:Pg nA) (gv:Pe P T L S) (fI:∀b o v,w.cell? ⟨b,o,none⟩=some v→γ b o=some v):∀fuel:Nat,
  (∀cs d bT,DataW.trod enc P w base spare held fuel T cs=some (d,bT)→nA d≤M→∃t:aj,e3 γ t.cells cs) ∧
  (∀cs d bT,DataW.trod enc P w base spare held fuel L cs=some (d,bT)→nA d≤M→∃bk v,cs=[v]∧cp γ (cN bk) v)
 | 0=>⟨fun cs d bT h=>by simp [DataW.trod] at h,fun cs d bT h=>by simp [DataW.trod] at h⟩
 | n+1=>by
  obtain ⟨aft,afu⟩:=z0 ah gv fI n
  constructor
  ·intro cs d bT h aw
   obtain ⟨f0,f1,cL,bB,aB,aI,dS⟩:=gv.cL
   obtain ⟨xs,m,hm,ai,aN,FC,aP⟩:=DataW.trod_struct cL h
   simp at hm;subst hm
   rw [gv.Pf] at aN
   match cs,aN,xs,FC with
   | [gT,cf],_,[fq,x1],_ =>
    have a0:=aP 0 f0 rfl
    have R:=aP 1 f1 rfl
    rw [bB,aB,gv.FB] at a0
    rw [aI,dS,gv.afq] at R
    simp only [List.drop_zero,List.take_succ_cons,List.take_zero,List.drop_succ_cons,List.getElem?_cons_zero,List.getElem?_cons_succ] at a0 R
    simp only [Prod.mk.injEq] at ai
    obtain ⟨rfl,_⟩:=ai
    obtain ⟨s,aS,rfl,_⟩:=DataW.trod_string gv.lk a0
    obtain ⟨bk,v,ax,ao⟩:=afu [cf] x1.1 x1.2 R (Nat.le_trans (ah.agg _ _ (by simp)) aw)
    simp only [List.cons.injEq,and_true] at aS ax
    subst aS ax
    refine ⟨.mk s.data.toList bk,?_⟩
    simp only [aj.cells,aj.name,aj.args]
    have hlen:s.data.toList.length≤M:=Nat.le_trans (ah.str _) (Nat.le_trans (ah.agg [.lit (.string s.data.toList),x1.1] _ (by simp)) aw)
    refine .cons _ _ _ _ rfl ?_ (.cons _ _ _ _ ?_ ao .nil)
    ·have:=cp.str (γ:=γ) s.data.toList hlen
     simpa using this
    ·unfold cN at ao;generalize bC bk=x at ao;cases ao<;>rfl
  ·intro cs d bT h aw
   rcases DataW.trod_slice gv.dy h with ⟨rfl,ai⟩ | ⟨a,len,cap,elems,rest,m,hm,rfl,ai,gC,fG,o6,hlen,m9,_⟩
   ·refine ⟨[],_,rfl,?_⟩
    simp only [cN,bC]
    exact .fP _ _ _ (by simp)
   ·simp at hm;subst hm
    simp only [Prod.mk.injEq] at ai
    obtain ⟨rfl,_⟩:=ai
    have aN:len≤M:=by have:=ah.len (elems.map (·.1)) (rest.map (·.1));simp at this;omega
    by_cases a0:len=0
    ·subst a0
     refine ⟨[],_,rfl,?_⟩
     simp only [cN,bC]
     exact .fP _ _ _ (by simp)
    ·have elem:∀i,i<len→∃cG t,e3 γ (aj.cells t) cG∧cG.length=2∧∀k v,cG[k]?=some v→w.cell? ((a.add (i*2)).add k)=some v:=fun i av=>by
      have R:=m9 i av
      rw [List.getElem?_eq_getElem (by omega),Option.bind_eq_some_iff] at R
      obtain ⟨cG,aa,al⟩:=R
      rw [gv.Pf] at aa
      obtain ⟨t,aF⟩:=aft cG _ _ (by rw [al]) (Nat.le_trans (ah.slice _ _ _ (List.mem_map.2 ⟨elems[i],List.getElem_mem _,rfl⟩)) aw)
      obtain ⟨an,ar⟩:=afr aa
      exact ⟨cG,t,aF,an,ar⟩
     have Pk:a.spot=none:=by
      obtain ⟨cG,t,_,R,aa⟩:=elem 0 (by omega)
      have al:=afs (aa 0 _ (List.getElem?_eq_getElem (by omega)))
      simpa [Addr.add] using al
     obtain ⟨nq,Pl,sp⟩:=a
     simp only at Pk;subst Pk
     obtain ⟨bk,R,aa⟩:=Pj (γ:=γ) (b:=nq) len Pl fun i av=>by
      obtain ⟨cG,t,R,_,aa⟩:=elem i av
      refine ⟨t,Ph R fun k v ax=>fI _ _ _ ?_⟩
      have:=aa k v ax
      rwa [iX,iX] at this
     refine ⟨bk,_,rfl,?_⟩
     have afv:(bC bk).length=len:=by rw [ln];simp [R]
     have:=cp.list (γ:=γ) nq Pl cap 2 (bC bk) (by omega) (by omega) aa
     rw [afv] at this
     exact this
end
end AM
