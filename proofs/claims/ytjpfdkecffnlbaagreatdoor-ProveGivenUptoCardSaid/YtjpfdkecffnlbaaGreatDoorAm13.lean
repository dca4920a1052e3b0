/- An abstract machine for the program of the seat, and what of the given program it does, part 14 of 17. Conditions: none. -/
import Derived.Test.YtjpfdkecffnlbaaGreatDoorAm12
import Derived.Attr
set_option linter.unusedVariables false
set_option linter.unusedSimpArgs false
/-! Equations of the abstract machine's code for symbolic runs; what stands behind a step is not looked at before the step is done. -/
namespace AM
open Go
def rg (aX av:Nat):List Nat:=List.range' aX (av+1 - aX)
theorem afw (aX av k:Nat):(rg aX av).contains k=(decide (aX≤k)&&decide (k≤av)):=by
 rw [Bool.eq_iff_iff]
 simp only [rg,List.contains_iff_mem,List.mem_range'_1,Bool.and_eq_true,decide_eq_true_eq]
 omega
theorem Pm (a b:List Nat) (k:Nat):(a++b).contains k=(a.contains k||b.contains k):=by
 rw [Bool.eq_iff_iff]
 simp only [List.contains_iff_mem,List.mem_append,Bool.or_eq_true]
def N (l:Env):Env:=l.foldr (fun p e=>Env.ins e p.1 p.2) []
theorem w9 (l:Env) (t:Nat) (e:bU):Env.ins (N l) t e=N ((t,e)::l):=rfl
theorem uv:∀l:Env,(N l).Pairwise fun p q=>p.1<q.1
 | []=>.nil
 | p::l=>Env.cR.ins (uv l) p.1 p.2
theorem FD:∀{aB aI:Env},aB.cR→aI.cR→(∀t,aB.get t=aI.get t)→aB=aI
 | [],[],_,_,_=>rfl
 | [],(k,x)::r,_,_,h=>by have:=h k;simp [Env.get] at this
 | (k,x)::r,[],_,_,h=>by have:=h k;simp [Env.get] at this
 | (k,x)::r,(k',a9)::cQ,R,aa,h=>by
  have lE:=List.pairwise_cons.1 R
  have FE:=List.pairwise_cons.1 aa
  have ab:k=k':=by
   rcases Nat.lt_trichotomy k k' with bz | he | bz
   ·have:=h k
    simp only [Env.get,if_true,show k≠k' by omega,if_false] at this
    have hm:=Env.m0 (e:=cQ) this.symm
    have:=FE.1 _ hm;simp at this;omega
   ·exact he
   ·have:=h k'
    simp only [Env.get,if_true,show k'≠k by omega,if_false] at this
    have hm:=Env.m0 (e:=r) this
    have:=lE.1 _ hm;simp at this;omega
  subst ab
  have ai:x=a9:=by have:=h k;simpa [Env.get] using this
  subst ai
  congr 1
  refine FD lE.2 FE.2 fun t=>?_
  have:=h t
  simp only [Env.get] at this
  by_cases aF:t=k
  ·subst aF
   have an:Env.get r t=none:=by
    cases aK:Env.get r t with
    | none=>rfl
    | some y=>have:=lE.1 _ (Env.m0 aK);simp at this
   have ar:Env.get cQ t=none:=by
    cases aK:Env.get cQ t with
    | none=>rfl
    | some y=>have:=FE.1 _ (Env.m0 aK);simp at this
   rw [an,ar]
  ·simpa [aF] using this
theorem mE:∀(l:Env) (t:Nat),Env.get (N l) t=Env.get l t
 | [],_=>rfl
 | (k,e)::l,t=>by
  show Env.get (Env.ins (N l) k e) t=_
  rw [Env.fm,mE l t];rfl
def pG:Env→List Nat→Env
 | [],_=>[]
 | (k,.a _ _)::r,bk=>pG r (k::bk)
 | (k,e)::r,bk=>if bk.contains k then pG r bk else (k,e)::pG r bk
def pH (bk:List Nat) (u:Nat):Option bU→Option bU
 | some (.a _ _)=>none
 | some x=>if bk.contains u then none else some x
 | none=>none
theorem pI {bk:List Nat} {u:Nat} (h:bk.contains u=true) (o:Option bU):pH bk u o=none:=by
 cases o with
 | none=>rfl
 | some x=>cases x<;>simp only [pH,h,if_true]
theorem uw:∀(l:Env) (bk:List Nat) (u:Nat),Env.get (pG l bk) u=pH bk u (Env.get l u)
 | [],_,_=>rfl
 | (k,.a x y)::r,bk,u=>by
  simp only [pG,uw r,Env.get]
  by_cases h:u=k
  ·subst h
   rw [pI (by simp),if_pos rfl];rfl
  ·rw [if_neg h]
   have:(k::bk).contains u=bk.contains u:=by simp [h]
   cases Env.get r u with
   | none=>rfl
   | some x=>cases x<;>simp only [pH,this]
 | (k,.v x)::r,bk,u=>by
  simp only [pG,Env.get]
  by_cases ab:bk.contains k=true
  ·rw [if_pos ab,uw r]
   by_cases h:u=k
   ·subst h;rw [pI ab,pI ab]
   ·rw [if_neg h]
  ·rw [if_neg ab]
   simp only [Env.get,uw r]
   by_cases h:u=k
   ·subst h;rw [if_pos rfl,if_pos rfl];simp only [pH];rw [if_neg ab]
   ·rw [if_neg h,if_neg h]
 | (k,.b x)::r,bk,u=>by
  simp only [pG,Env.get]
  by_cases ab:bk.contains k=true
  ·rw [if_pos ab,uw r]
   by_cases h:u=k
   ·subst h;rw [pI ab,pI ab]
   ·rw [if_neg h]
  ·rw [if_neg ab]
   simp only [Env.get,uw r]
   by_cases h:u=k
   ·subst h;rw [if_pos rfl,if_pos rfl];simp only [pH];rw [if_neg ab]
   ·rw [if_neg h,if_neg h]
theorem Pn:∀{e:Env} (_:e.cR) (bk:List Nat) (u:Nat),Env.get (e.close bk) u=pH bk u (e.get u)
 | [],_,_,_=>rfl
 | (k,x)::r,aS,bk,u=>by
  have eD:=List.pairwise_cons.1 aS
  have ih:=Pn eD.2 bk u
  have vW:u=k→Env.get r u=none:=fun h=>by
   cases aK:Env.get r u with
   | none=>rfl
   | some y=>have:=eD.1 _ (Env.m0 aK);simp at this;omega
  cases x with
  | a p q =>
   simp only [Env.close,Env.get,ih]
   by_cases h:u=k
   ·rw [vW h,if_pos h];rfl
   ·rw [if_neg h]
  | v y =>
   simp only [Env.close,Env.get]
   by_cases ab:bk.contains k=true
   ·rw [if_pos ab,ih]
    by_cases h:u=k
    ·subst h;rw [pI ab,pI ab]
    ·rw [if_neg h]
   ·rw [if_neg ab]
    simp only [Env.get,ih]
    by_cases h:u=k
    ·subst h;rw [if_pos rfl,if_pos rfl];simp only [pH];rw [if_neg ab]
    ·rw [if_neg h,if_neg h]
  | b y =>
   simp only [Env.close,Env.get]
   by_cases ab:bk.contains k=true
   ·rw [if_pos ab,ih]
    by_cases h:u=k
    ·subst h;rw [pI ab,pI ab]
    ·rw [if_neg h]
   ·rw [if_neg ab]
    simp only [Env.get,ih]
    by_cases h:u=k
    ·subst h;rw [if_pos rfl,if_pos rfl];simp only [pH];rw [if_neg ab]
    ·rw [if_neg h,if_neg h]
theorem afx (l:Env) (bk:List Nat):(N l).close bk=N (pG l bk) :=
 FD (Env.cR.close (uv l) bk) (uv _) fun t=>by rw [Pn (uv l),mE,mE,uw]
theorem afy {l:Env} (h:l.cR):N l=l:=FD (uv l) h fun t=>mE l t
theorem afz (xs:List AV):N (h8 0 xs)=h8 0 xs:=afy (DV xs 0)
def qP:Env→List Nat→Nat→Bool
 | [],_,_=>false
 | (k,e)::r,bk,d=>(!bk.contains k&&(match e with | .a u _=>u==d | _=>false))||qP r (k::bk) d
theorem afA {e:Env} (aS:e.cR) (d:Nat):hV e d=true↔∃k off,e.get k=some (.a d off):=by
 simp only [hV,List.any_eq_true]
 constructor
 ·rintro ⟨⟨k,x⟩,hm,ai⟩
  cases x with
  | a u off=>simp at ai;subst ai;exact ⟨k,off,Env.get_of_mem aS hm⟩
  | v y=>simp at ai
  | b y=>simp at ai
 ·rintro ⟨k,off,h⟩
  exact ⟨(k,.a d off),Env.m0 h,by simp⟩
theorem Po:∀(l:Env) (bk:List Nat) (d:Nat),qP l bk d=true↔∃k off,bk.contains k=false∧Env.get l k=some (.a d off)
 | [],bk,d=>by simp [qP,Env.get]
 | (k,e)::r,bk,d=>by
  simp only [qP,Bool.or_eq_true,Bool.and_eq_true,Bool.not_eq_true',Po r,Env.get]
  constructor
  ·rintro (⟨R,aa⟩ | ⟨k',off,R,aa⟩)
   ·cases e with
    | a u off=>simp at aa;subst aa;exact ⟨k,off,R,by rw [if_pos rfl]⟩
    | v y=>simp at aa
    | b y=>simp at aa
   ·simp only [List.contains_cons,Bool.or_eq_false_iff,beq_eq_false_iff_ne] at R
    exact ⟨k',off,R.2,by rw [if_neg R.1];exact aa⟩
  ·rintro ⟨k',off,R,aa⟩
   by_cases h:k'=k
   ·subst h;rw [if_pos rfl] at aa;simp at aa;subst aa;exact .inl ⟨R,by simp⟩
   ·rw [if_neg h] at aa;exact .inr ⟨k',off,by simp only [List.contains_cons,R,Bool.or_false,beq_eq_false_iff_ne];exact h,aa⟩
theorem Pp (l:Env) (d:Nat):hV (N l) d=qP l [] d:=by
 rw [Bool.eq_iff_iff,afA (uv l),Po]
 constructor
 ·rintro ⟨k,off,h⟩;exact ⟨k,off,rfl,by rw [←mE];exact h⟩
 ·rintro ⟨k,off,_,h⟩;exact ⟨k,off,by rw [mE];exact h⟩
theorem b7 (l:Env):N l=l.foldr (fun p e=>Env.ins e p.1 p.2) []:=rfl
attribute [irreducible] N
structure bA {α:Sort _} (x:α):Type where
 mk ::
def c5 (o:Option ae) (K:ae→Prop) (_:bA K):Prop:=match o with | some s=>K s | none=>False
def c6 {α:Type} (o:Option α) (K:α→Prop) (_:bA K):Prop:=match o with | some x=>K x | none=>False
def FF (o:Option Bool) (K:Bool→Prop) (_:bA K):Prop:=match o with | some b=>K b | none=>False
def FG (o:Option AV) (K:Bool→Prop) (_:bA K):Prop:=match o with | some (.bool b)=>K b | _=>False
def gU (b:Bool) (K:Bool→Prop) (_:bA K):Prop:=K b
theorem afB {s:ae} {K:ae→Prop} {t:bA K}:c5 (some s) K t=K s:=id rfl
theorem h9 {α:Type} {x:α} {K:α→Prop} {t:bA K}:c6 (some x) K t=K x:=id rfl
theorem afC {b:Bool} {K:Bool→Prop} {t:bA K}:FF (some b) K t=gU b K ⟨⟩:=id rfl
theorem afD {b:Bool} {K:Bool→Prop} {t:bA K}:FG (some (.bool b)) K t=gU b K ⟨⟩:=id rfl
theorem Pq {K:Bool→Prop} {t:bA K}:gU true K t=K true:=id rfl
theorem Pr {K:Bool→Prop} {t:bA K}:gU false K t=K false:=id rfl
section
variable (P:Program) (gl:aR) (D:cv)
def hI (c:ay) (s:ae) (Q:fO→ae→Prop) (_:bA Q):Prop:=exec P gl D c s Q
def pJ (b6:List ev) (s:ae) (K:ae→Prop) (_:bA K):Prop:=gI P gl D b6 s K
def cO (s:ae) (K:ae→Prop) (_:bA K) (o:bR):Prop:=b0 P gl D s K o
end
section
variable {P:Program} {gl:aR} {D:cv}
theorem afE {c:ay} {xs:List AV} {H:List aM} {Q:fO→ae→Prop}:exec P gl D c ⟨h8 0 xs,H⟩ Q=hI P gl D c ⟨N (h8 0 xs),H⟩ Q ⟨⟩:=by rw [afz];rfl
theorem afF {s:ae} {Q:fO→ae→Prop} {t:bA Q}:hI P gl D .skip s Q t=Q .normal s:=id rfl
theorem afG {b6:List ev} {lP:List Nat} {s:ae} {Q:fO→ae→Prop} {t:bA Q}:hI P gl D (.U b6 lP) s Q t=pJ P gl D b6 s (fun s'=>Q .normal { s' with env:=s'.env.close lP }) ⟨⟩:=id rfl
theorem afH {x y:ay} {s:ae} {Q:fO→ae→Prop} {t:bA Q}:hI P gl D (.seq x y) s Q t=hI P gl D x s (fun e s'=>match e with | .normal=>hI P gl D y s' Q ⟨⟩ | e=>Q e s') ⟨⟩:=id rfl
theorem afI {c:aq} {x y:ay} {s:ae} {Q:fO→ae→Prop} {t:bA Q}:hI P gl D (.cond c x y) s Q t=FG (bl gl s.env c) (fun b=>match b with | true=>hI P gl D x s Q ⟨⟩ | false=>hI P gl D y s Q ⟨⟩) ⟨⟩:=by
 simp only [hI,exec,FG]
 cases bl gl s.env c with
 | none=>rfl
 | some v=>cases v with
  | bool b=>cases b<;>simp
  | _=>rfl
theorem afJ {i:Nat} {x:ay} {s:ae} {Q:fO→ae→Prop} {t:bA Q}:hI P gl D (.block i x) s Q t=hI P gl D x s (fun e s=>match e with | .exit j=>if j=i then Q .normal s else Q (.exit j) s | e=>Q e s) ⟨⟩:=id rfl
theorem afK {i:Nat} {s:ae} {Q:fO→ae→Prop} {t:bA Q}:hI P gl D (.exit i) s Q t=Q (.exit i) s:=id rfl
theorem afL {s:ae} {Q:fO→ae→Prop} {t:bA Q}:hI P gl D .ret s Q t=Q .ret s:=id rfl
theorem afM {u e sz:Nat} {x:ay} {s:ae} {Q:fO→ae→Prop} {t:bA Q}:hI P gl D (.jV u e sz x) s Q t=c5 (rH s u e sz) (fun s'=>hI P gl D x s' Q ⟨⟩) ⟨⟩:=id rfl
theorem afN {s:ae} {K:ae→Prop} {t:bA K}:pJ P gl D [] s K t=K s:=id rfl
theorem afO {o:bR} {r:List ev} {s:ae} {K:ae→Prop} {t:bA K}:pJ P gl D (⟨none,o⟩::r) s K t=cO P gl D s (fun s'=>pJ P gl D r s' K ⟨⟩) ⟨⟩ o:=id rfl
theorem afP {u:Nat} {w:Bool} {o:bR} {r:List ev} {s:ae} {K:ae→Prop} {t:bA K}:pJ P gl D (⟨some (u,w),o⟩::r) s K t=FF (h3 s.env (some (u,w))) (fun b=>match b with
  | true=>cO P gl D s (fun s'=>pJ P gl D r s' K ⟨⟩) ⟨⟩ o
  | false=>(match fT o with
   | some d=>c5 (s.put d (.bw [])) (fun s'=>pJ P gl D r s' K ⟨⟩) ⟨⟩
   | none=>pJ P gl D r s K ⟨⟩)) ⟨⟩:=by
 simp only [pJ,gI,FF]
 cases h3 s.env (some (u,w)) with
 | none=>rfl
 | some b=>cases b<;>rfl
theorem Ps {d:Option Nat} {f:Nat} {xs:List aq} {s:ae} {K:ae→Prop} {t:bA K}:cO P gl D s K t (.aQ d f xs)=c6 (dQ gl s.env xs) (fun vs=>(vs.map AV.aL).all AV.arg=true ∧
   c6 (D f (vs.map AV.aL)) (fun r=>a4 P gl f (vs.map AV.aL) r∧c5 (s.ef d r) K ⟨⟩) ⟨⟩) ⟨⟩:=by
 simp only [cO,b0,c6]
 cases dQ gl s.env xs with
 | none=>rfl
 | some vs =>
  refine congrArg (fun p=>(vs.map AV.aL).all AV.arg=true∧p) ?_
  cases D f (vs.map AV.aL) with
  | none=>rfl
  | some r=>rfl
theorem Pt {d:Option Nat} {f:Nat} {xs:List aq} {s:ae} {K:ae→Prop} {t:bA K}:cO P gl D s K t (.bF d f xs)=c6 (dQ gl s.env xs) (fun vs=>jJ P gl f (vs.map AV.aL) s.heap fun r H'=>c5 (({ s with heap:=H' }:ae).ef d r) K ⟨⟩) ⟨⟩:=by
 simp only [cO,b0,c6]
 cases dQ gl s.env xs with
 | none=>rfl
 | some vs=>rfl
theorem Pu {d:Option Nat} {x:aq} {xs:List aq} {s:ae} {K:ae→Prop} {t:bA K}:cO P gl D s K t (.eU d x xs)=c6 (bl gl s.env x) (fun v=>match v with
  | .fn f eu=>c6 (dQ gl s.env xs) (fun vs=>jJ P gl f (vs.map AV.aL++eu.map AV.aL) s.heap fun r H'=>c5 (({ s with heap:=H' }:ae).ef d r) K ⟨⟩) ⟨⟩
  | _=>False) ⟨⟩:=by
 simp only [cO,b0,c6]
 cases bl gl s.env x with
 | none=>rfl
 | some v=>cases v with
  | fn f eu=>cases dQ gl s.env xs<;>rfl
  | _=>rfl
theorem Pv {d:Nat} {x:aq} {s:ae} {K:ae→Prop} {t:bA K}:cO P gl D s K t (.I d x)=c5 (au gl s (.I d x)) K ⟨⟩:=id rfl
theorem Pw {d x:Nat} {s:ae} {K:ae→Prop} {t:bA K}:cO P gl D s K t (.bg d x)=c5 (au gl s (.bg d x)) K ⟨⟩:=id rfl
theorem afQ {d e sz:Nat} {s:ae} {K:ae→Prop} {t:bA K}:cO P gl D s K t (.hr d e sz)=c5 (au gl s (.hr d e sz)) K ⟨⟩:=id rfl
theorem Px {d:Nat} {c a b:aq} {s:ae} {K:ae→Prop} {t:bA K}:cO P gl D s K t (.pick d c a b)=c5 (au gl s (.pick d c a b)) K ⟨⟩:=id rfl
theorem Py {d m:Nat} {op:BinOp} {x y:aq} {s:ae} {K:ae→Prop} {t:bA K}:cO P gl D s K t (.bin d m op x y)=c5 (au gl s (.bin d m op x y)) K ⟨⟩:=id rfl
theorem afR {d:Nat} {ne:Bool} {az:List Nat} {x y:aq} {s:ae} {K:ae→Prop} {t:bA K}:cO P gl D s K t (.kV d ne az x y)=c5 (au gl s (.kV d ne az x y)) K ⟨⟩:=id rfl
theorem Pz {d:Nat} {x:aq} {s:ae} {K:ae→Prop} {t:bA K}:cO P gl D s K t (.cB d x)=c5 (au gl s (.cB d x)) K ⟨⟩:=id rfl
theorem PA {d:Nat} {k:IntKind} {x:aq} {s:ae} {K:ae→Prop} {t:bA K}:cO P gl D s K t (.conv d k x)=c5 (au gl s (.conv d k x)) K ⟨⟩:=id rfl
theorem afS {d x i:Nat} {s:ae} {K:ae→Prop} {t:bA K}:cO P gl D s K t (.ext d x i)=c5 (au gl s (.ext d x i)) K ⟨⟩:=id rfl
theorem PB {d m:Nat} {x:aq} {s:ae} {K:ae→Prop} {t:bA K}:cO P gl D s K t (.len d m x)=c5 (au gl s (.len d m x)) K ⟨⟩:=id rfl
theorem afT {d:Nat} {z:List AV} {s:ae} {K:ae→Prop} {t:bA K}:cO P gl D s K t (.alloc d z)=c5 (au gl s (.alloc d z)) K ⟨⟩:=id rfl
theorem afU {d:Nat} {z:List AV} {s:ae} {K:ae→Prop} {t:bA K}:cO P gl D s K t (.g0 d z)=c5 (au gl s (.g0 d z)) K ⟨⟩:=id rfl
theorem PC {d:Nat} {x:aq} {s:ae} {K:ae→Prop} {t:bA K}:cO P gl D s K t (.cz d x)=c5 (au gl s (.cz d x)) K ⟨⟩:=id rfl
theorem PD {d:Nat} {z:List AV} {parts:List (Nat×Nat×aq)} {s:ae} {K:ae→Prop} {t:bA K}:cO P gl D s K t (.build d z parts)=c5 (au gl s (.build d z parts)) K ⟨⟩:=id rfl
theorem PE {d sz:Nat} {xs:List aq} {s:ae} {K:ae→Prop} {t:bA K}:cO P gl D s K t (.lit d sz xs)=c5 (au gl s (.lit d sz xs)) K ⟨⟩:=id rfl
theorem PF {d:Nat} {x:aq} {off:Nat} {s:ae} {K:ae→Prop} {t:bA K}:cO P gl D s K t (.aC d x off)=c5 (au gl s (.aC d x off)) K ⟨⟩:=id rfl
theorem PG {d sz:Nat} {x i:aq} {s:ae} {K:ae→Prop} {t:bA K}:cO P gl D s K t (.bm d sz x i)=c5 (au gl s (.bm d sz x i)) K ⟨⟩:=id rfl
theorem PH {d:Nat} {x:aq} {n:Nat} {ag:Bool} {s:ae} {K:ae→Prop} {t:bA K}:cO P gl D s K t (.ak d x n ag)=c5 (au gl s (.ak d x n ag)) K ⟨⟩:=id rfl
theorem PI {n:Nat} {x v:aq} {s:ae} {K:ae→Prop} {t:bA K}:cO P gl D s K t (.st n x v)=c5 (au gl s (.st n x v)) K ⟨⟩:=id rfl
theorem afV {d:Nat} {x i:aq} {s:ae} {K:ae→Prop} {t:bA K}:cO P gl D s K t (.idx d x i)=c5 (au gl s (.idx d x i)) K ⟨⟩:=id rfl
theorem afW {d sz:Nat} {x:aq} {aX av:Option aq} {s:ae} {K:ae→Prop} {t:bA K}:cO P gl D s K t (.hU d sz x aX av)=c5 (au gl s (.hU d sz x aX av)) K ⟨⟩:=id rfl
theorem afX {d:Nat} {x:aq} {n sz:Nat} {aX av:Option aq} {s:ae} {K:ae→Prop} {t:bA K}:cO P gl D s K t (.jw d x n sz aX av)=c5 (au gl s (.jw d x n sz aX av)) K ⟨⟩:=id rfl
theorem PJ {d u:Nat} {x:aq} {e sz:Nat} {s:ae} {K:ae→Prop} {t:bA K}:cO P gl D s K t (.app d u x e sz)=c5 (au gl s (.app d u x e sz)) K ⟨⟩:=id rfl
theorem PK {d:Nat} {fz:Bool} {x y:aq} {s:ae} {K:ae→Prop} {t:bA K}:cO P gl D s K t (.jS d fz x y)=c5 (au gl s (.jS d fz x y)) K ⟨⟩:=id rfl
theorem PL {d e sz:Nat} {xs:List aq} {s:ae} {K:ae→Prop} {t:bA K}:cO P gl D s K t (.kr d e sz xs)=c5 (au gl s (.kr d e sz xs)) K ⟨⟩:=id rfl
theorem afY {d e:Nat} {z:List AV} {x:aq} {s:ae} {K:ae→Prop} {t:bA K}:cO P gl D s K t (.jT d e z x)=c5 (au gl s (.jT d e z x)) K ⟨⟩:=id rfl
theorem afZ {d e sz:Nat} {sb:Bool} {u x:aq} {s:ae} {K:ae→Prop} {t:bA K}:cO P gl D s K t (.jy d e sz sb u x)=c5 (au gl s (.jy d e sz sb u x)) K ⟨⟩:=id rfl
theorem PM {d:Nat} {ne:Bool} {x:aq} {s:ae} {K:ae→Prop} {t:bA K}:cO P gl D s K t (.jU d ne x)=c5 (au gl s (.jU d ne x)) K ⟨⟩:=id rfl
theorem af0 {d f:Nat} {x y:aq} {s:ae} {K:ae→Prop} {t:bA K}:cO P gl D s K t (.lB d f x y)=c5 (au gl s (.lB d f x y)) K ⟨⟩:=id rfl
theorem af1 {m:Nat} {o:bR} {s:ae} {K:ae→Prop} {t:bA K}:cO P gl D s K t (.on m o)=c5 (au gl s (.on m o)) K ⟨⟩:=id rfl
end
attribute [go_sem ↓] afE afF afG afH afI afJ afK afL afM afN afO afP Ps Pt Pu Pv Pw afQ Px Py afR Pz PA afS PB afT afU PC PD PE PF PG PH PI afV afW afX PJ PK PL afY afZ PM af0 af1
attribute [go_sem] w9 mE afx Pp pG qP afw Pm afB h9 afC afD Pq Pr
attribute [go_sem] au bl dQ c9 eJ ae.put ae.hW ae.ef Env.get h8 dn eV x6 x7 vi hd jA eg ej h3 fT mw tu tv qB
attribute [go_sem] ne_eq not_false_eq_true not_true_eq_false List.nil_append List.cons_append Option.map_some Option.map_none beq_true beq_false List.set_cons_zero List.set_cons_succ List.length_set List.all_cons List.all_nil List.any_cons List.any_nil List.map_cons List.map_nil List.take List.drop List.length_cons List.length_nil List.length_map List.getElem?_cons_zero List.getElem?_cons_succ Option.bind_some Option.bind_none Bool.and_true Bool.true_and Bool.and_false Bool.false_and Bool.or_true Bool.true_or Bool.or_false Bool.false_or Bool.not_true Bool.not_false
attribute [go_sem] true_and and_true and_self or_self or_false or_true false_or true_or if_true if_false ite_true ite_false decide_true decide_false Bool.false_eq_true List.contains_cons List.contains_nil Nat.zero_add Nat.add_zero Nat.lt_irrefl Nat.not_lt_zero beq_self_eq_true
theorem af2 (b:Bool):AV.cells (AV.bool b)=[(AV.bool b)]:=rfl
theorem af3 (b:Bool):AV.aL (AV.bool b)=(AV.bool b):=rfl
theorem af4 (b:Bool):AV.one (AV.bool b)=true:=rfl
theorem af5 (b:Bool):AV.dw (AV.bool b)=true:=rfl
theorem af6 (b:Bool):AV.pure (AV.bool b)=true:=rfl
theorem af7 (b:Bool):AV.arg (AV.bool b)=true:=rfl
theorem af8 (b:Bool):AV.res (AV.bool b)=true:=rfl
theorem af9 (b:Bool):AV.fy (AV.bool b)=none:=rfl
theorem aga (k:IntKind) (n:Int):AV.cells (AV.int k n)=[(AV.int k n)]:=rfl
theorem agb (k:IntKind) (n:Int):AV.aL (AV.int k n)=(AV.int k n):=rfl
theorem agc (k:IntKind) (n:Int):AV.one (AV.int k n)=true:=rfl
theorem agd (k:IntKind) (n:Int):AV.dw (AV.int k n)=true:=rfl
theorem age (k:IntKind) (n:Int):AV.pure (AV.int k n)=true:=rfl
theorem agf (k:IntKind) (n:Int):AV.arg (AV.int k n)=true:=rfl
theorem agh (k:IntKind) (n:Int):AV.res (AV.int k n)=true:=rfl
theorem agi (k:IntKind) (n:Int):AV.fy (AV.int k n)=none:=rfl
theorem agj (s:List UInt8):AV.cells (AV.str s)=[(AV.str s)]:=rfl
theorem agk (s:List UInt8):AV.aL (AV.str s)=(AV.str s):=rfl
theorem agl (s:List UInt8):AV.one (AV.str s)=true:=rfl
theorem agm (s:List UInt8):AV.dw (AV.str s)=true:=rfl
theorem agn (s:List UInt8):AV.pure (AV.str s)=true:=rfl
theorem ago (s:List UInt8):AV.arg (AV.str s)=true:=rfl
theorem agp (s:List UInt8):AV.res (AV.str s)=true:=rfl
theorem agq (s:List UInt8):AV.fy (AV.str s)=none:=rfl
theorem agr :AV.cells AV.dP=[AV.dP]:=rfl
theorem ags :AV.aL AV.dP=AV.dP:=rfl
theorem agt :AV.one AV.dP=true:=rfl
theorem agu :AV.dw AV.dP=true:=rfl
theorem agv :AV.pure AV.dP=true:=rfl
theorem agw :AV.arg AV.dP=true:=rfl
theorem agx :AV.res AV.dP=true:=rfl
theorem agy :AV.fy AV.dP=none:=rfl
theorem agz (i o:Nat):AV.cells (AV.ptr i o)=[(AV.ptr i o)]:=rfl
theorem agA (i o:Nat):AV.aL (AV.ptr i o)=(AV.ptr i o):=rfl
theorem agB (i o:Nat):AV.one (AV.ptr i o)=true:=rfl
theorem agC (i o:Nat):AV.dw (AV.ptr i o)=false:=rfl
theorem agD (i o:Nat):AV.pure (AV.ptr i o)=false:=rfl
theorem agE (i o:Nat):AV.arg (AV.ptr i o)=false:=rfl
theorem agF (i o:Nat):AV.res (AV.ptr i o)=false:=rfl
theorem agG (i o:Nat):AV.fy (AV.ptr i o)=none:=rfl
theorem agH (cs:List AV):AV.cells (AV.cU cs)=[(AV.cU cs)]:=rfl
theorem agI (cs:List AV):AV.aL (AV.cU cs)=(AV.cU cs):=rfl
theorem agJ (cs:List AV):AV.one (AV.cU cs)=true:=rfl
theorem agK (cs:List AV):AV.dw (AV.cU cs)=true:=rfl
theorem agL (cs:List AV):AV.pure (AV.cU cs)=true:=rfl
theorem agM (cs:List AV):AV.arg (AV.cU cs)=true:=rfl
theorem agN (cs:List AV):AV.res (AV.cU cs)=true:=rfl
theorem agO (cs:List AV):AV.fy (AV.cU cs)=none:=rfl
theorem agP (o:Option Nat) (z:Nat) (xs:List AV):AV.cells (AV.list o z xs)=[(AV.list o z xs)]:=rfl
theorem agQ (o:Option Nat) (z:Nat) (xs:List AV):AV.aL (AV.list o z xs)=AV.list none z xs:=rfl
theorem agR (o:Option Nat) (z:Nat) (xs:List AV):AV.one (AV.list o z xs)=true:=rfl
theorem agS (o:Option Nat) (z:Nat) (xs:List AV):AV.res (AV.list o z xs)=true:=rfl
theorem agT (z:Nat) (xs:List AV):AV.dw (AV.list none z xs)=true:=rfl
theorem agU (e z:Nat) (xs:List AV):AV.dw (AV.list (some e) z xs)=false:=rfl
theorem agV (z:Nat) (xs:List AV):AV.pure (AV.list none z xs)=true:=rfl
theorem agW (e z:Nat) (xs:List AV):AV.pure (AV.list (some e) z xs)=false:=rfl
theorem agX (z:Nat) (xs:List AV):AV.arg (AV.list none z xs)=true:=rfl
theorem agY (e z:Nat) (xs:List AV):AV.arg (AV.list (some e) z xs)=false:=rfl
theorem agZ (o:Option Nat) (z:Nat) (xs:List AV):AV.fy (AV.list o z xs)=some (z,xs):=rfl
theorem ag0 (i:Nat):AV.cells (AV.map i)=[(AV.map i)]:=rfl
theorem ag1 (i:Nat):AV.aL (AV.map i)=(AV.map i):=rfl
theorem ag2 (i:Nat):AV.one (AV.map i)=true:=rfl
theorem ag3 (i:Nat):AV.dw (AV.map i)=false:=rfl
theorem ag4 (i:Nat):AV.pure (AV.map i)=false:=rfl
theorem ag5 (i:Nat):AV.arg (AV.map i)=false:=rfl
theorem ag6 (i:Nat):AV.res (AV.map i)=false:=rfl
theorem ag7 (i:Nat):AV.fy (AV.map i)=none:=rfl
theorem ag8 :AV.cells AV.eN=[AV.eN]:=rfl
theorem ag9 :AV.aL AV.eN=AV.eN:=rfl
theorem aha :AV.one AV.eN=true:=rfl
theorem ahb :AV.dw AV.eN=true:=rfl
theorem ahc :AV.pure AV.eN=true:=rfl
theorem ahd :AV.arg AV.eN=true:=rfl
theorem ahe :AV.res AV.eN=true:=rfl
theorem ahf :AV.fy AV.eN=none:=rfl
theorem ahg (f:Nat) (cs:List AV):AV.cells (AV.fn f cs)=[(AV.fn f cs)]:=rfl
theorem ahh (f:Nat) (cs:List AV):AV.aL (AV.fn f cs)=(AV.fn f cs):=rfl
theorem ahi (f:Nat) (cs:List AV):AV.one (AV.fn f cs)=true:=rfl
theorem ahj (f:Nat) (cs:List AV):AV.dw (AV.fn f cs)=false:=rfl
theorem ahk (f:Nat) (cs:List AV):AV.pure (AV.fn f cs)=false:=rfl
theorem ahl (f:Nat) (cs:List AV):AV.arg (AV.fn f cs)=cs.all AV.dw:=rfl
theorem ahm (f:Nat) (cs:List AV):AV.res (AV.fn f cs)=cs.all AV.dw:=rfl
theorem ahn (f:Nat) (cs:List AV):AV.fy (AV.fn f cs)=none:=rfl
theorem aho :AV.cells AV.gz=[AV.gz]:=rfl
theorem ahp :AV.aL AV.gz=AV.gz:=rfl
theorem ahq :AV.one AV.gz=true:=rfl
theorem ahr :AV.dw AV.gz=true:=rfl
theorem ahs :AV.pure AV.gz=true:=rfl
theorem aht :AV.arg AV.gz=true:=rfl
theorem ahu :AV.res AV.gz=true:=rfl
theorem ahv :AV.fy AV.gz=none:=rfl
theorem ahw :AV.cells AV.gm=[AV.gm]:=rfl
theorem ahx :AV.aL AV.gm=AV.gm:=rfl
theorem ahy :AV.one AV.gm=true:=rfl
theorem ahz :AV.dw AV.gm=true:=rfl
theorem ahA :AV.pure AV.gm=true:=rfl
theorem ahB :AV.arg AV.gm=true:=rfl
theorem ahC :AV.res AV.gm=true:=rfl
theorem ahD :AV.fy AV.gm=none:=rfl
theorem ahE (z:Nat):AV.cells (AV.aH z)=[(AV.aH z)]:=rfl
theorem ahF (z:Nat):AV.aL (AV.aH z)=(AV.aH z):=rfl
theorem ahG (z:Nat):AV.one (AV.aH z)=true:=rfl
theorem ahH (z:Nat):AV.dw (AV.aH z)=true:=rfl
theorem ahI (z:Nat):AV.pure (AV.aH z)=true:=rfl
theorem ahJ (z:Nat):AV.arg (AV.aH z)=true:=rfl
theorem ahK (z:Nat):AV.res (AV.aH z)=true:=rfl
theorem ahL (z:Nat):AV.fy (AV.aH z)=some (z,[]):=rfl
theorem ahM (z:Nat):AV.cells (AV.fb z)=[(AV.fb z)]:=rfl
theorem ahN (z:Nat):AV.aL (AV.fb z)=(AV.fb z):=rfl
theorem ahO (z:Nat):AV.one (AV.fb z)=true:=rfl
theorem ahP (z:Nat):AV.dw (AV.fb z)=false:=rfl
theorem ahQ (z:Nat):AV.pure (AV.fb z)=false:=rfl
theorem ahR (z:Nat):AV.arg (AV.fb z)=false:=rfl
theorem ahS (z:Nat):AV.res (AV.fb z)=false:=rfl
theorem ahT (z:Nat):AV.fy (AV.fb z)=none:=rfl
theorem ahU (z:Nat):AV.cells (AV.eE z)=[(AV.eE z)]:=rfl
theorem ahV (z:Nat):AV.aL (AV.eE z)=(AV.eE z):=rfl
theorem ahW (z:Nat):AV.one (AV.eE z)=true:=rfl
theorem ahX (z:Nat):AV.dw (AV.eE z)=true:=rfl
theorem ahY (z:Nat):AV.pure (AV.eE z)=true:=rfl
theorem ahZ (z:Nat):AV.arg (AV.eE z)=true:=rfl
theorem ah0 (z:Nat):AV.res (AV.eE z)=true:=rfl
theorem ah1 (z:Nat):AV.fy (AV.eE z)=some (z,[]):=rfl
theorem ah2 (i o n z:Nat):AV.cells (AV.bI i o n z)=[(AV.bI i o n z)]:=rfl
theorem ah3 (i o n z:Nat):AV.aL (AV.bI i o n z)=(AV.bI i o n z):=rfl
theorem ah4 (i o n z:Nat):AV.one (AV.bI i o n z)=true:=rfl
theorem ah5 (i o n z:Nat):AV.dw (AV.bI i o n z)=false:=rfl
theorem ah6 (i o n z:Nat):AV.pure (AV.bI i o n z)=false:=rfl
theorem ah7 (i o n z:Nat):AV.arg (AV.bI i o n z)=false:=rfl
theorem ah8 (i o n z:Nat):AV.res (AV.bI i o n z)=false:=rfl
theorem ah9 (i o n z:Nat):AV.fy (AV.bI i o n z)=none:=rfl
theorem aia (cs:List AV):AV.cells (AV.agg cs)=cs:=rfl
theorem aib (cs:List AV):AV.aL (AV.agg cs)=(AV.agg cs):=rfl
theorem aic (cs:List AV):AV.one (AV.agg cs)=false:=rfl
theorem aid (cs:List AV):AV.dw (AV.agg cs)=false:=rfl
theorem aie (cs:List AV):AV.pure (AV.agg cs)=cs.all AV.dw:=rfl
theorem aif (cs:List AV):AV.arg (AV.agg cs)=cs.all AV.dw:=rfl
theorem aih (cs:List AV):AV.res (AV.agg cs)=cs.all AV.dw:=rfl
theorem aii (cs:List AV):AV.fy (AV.agg cs)=none:=rfl
theorem aij (cs:List AV):AV.cells (AV.bw cs)=[(AV.bw cs)]:=rfl
theorem aik (cs:List AV):AV.aL (AV.bw cs)=(AV.bw cs):=rfl
theorem ail (cs:List AV):AV.one (AV.bw cs)=false:=rfl
theorem aim (cs:List AV):AV.dw (AV.bw cs)=false:=rfl
theorem ain (cs:List AV):AV.pure (AV.bw cs)=false:=rfl
theorem aio (cs:List AV):AV.res (AV.bw cs)=cs.all AV.arg:=rfl
theorem aip (cs:List AV):AV.fy (AV.bw cs)=none:=rfl
attribute [go_sem] ahU ahV ahW ahX ahY ahZ ah0 ah1 af2 af3 af4 af5 af6 af7 af8 af9 aga agb agc agd age agf agh agi agj agk agl agm agn ago agp agq agr ags agt agu agv agw agx agy agz agA agB agC agD agE agF agG agH agI agJ agK agL agM agN agO agP agQ agR agS agT agU agV agW agX agY agZ ag0 ag1 ag2 ag3 ag4 ag5 ag6 ag7 ag8 ag9 aha ahb ahc ahd ahe ahf ahg ahh ahi ahj ahk ahl ahm ahn aho ahp ahq ahr ahs aht ahu ahv ahw ahx ahy ahz ahA ahB ahC ahD ahE ahF ahG ahH ahI ahJ ahK ahL ahM ahN ahO ahP ahQ ahR ahS ahT ah2 ah3 ah4 ah5 ah6 ah7 ah8 ah9 aia aib aic aid aie aif aih aii aij aik ail aim ain aio aip
end AM
/-! Loops by invariants and measures; lists of terms. -/
namespace AM
open Go
section
variable {P:Program} {gl:aR} {D:cv}
theorem e8 {z1:Type} {bk:List Nat} {c:ay} {s:ae} {Q:fO→ae→Prop} (E:z1→ae) (Inv:z1→Prop) (r:z1→Nat) (i0:z1) (g7:Inv i0) (a0:({ s with env:=s.env.close bk }:ae)=E i0)
  (step:∀i,Inv i→hI P gl D c (E i) (fun e s'=>match e with | .normal=>∃j,Inv j∧r j<r i∧({ s' with env:=s'.env.close bk }:ae)=E j | e=>Q e s') ⟨⟩) {t:bA Q} :
  hI P gl D (.loop (.drop bk c)) s Q t:=by
 show exec P gl D (.loop (.drop bk c)) s Q
 have key:∀n i,r i=n→Inv i→∀s:ae,({ s with env:=s.env.close bk }:ae)=E i→exec P gl D (.loop (.drop bk c)) s Q:=by
  intro n
  induction n using Nat.strongRecOn with
  | _ n ih =>
   intro i a1 av s aS
   refine Ob ?_
   show exec P gl D c { s with env:=s.env.close bk } _
   rw [aS]
   refine hD c (show exec P gl D c _ _ from step i av) fun e s' h=>?_
   cases e with
   | normal =>
    obtain ⟨j,R,aa,al⟩:=h
    exact ih (r j) (by omega) j rfl R s' al
   | exit k=>exact h
   | ret=>exact h
 exact key _ i0 rfl g7 s a0
end
theorem aj.arg (t:aj):t.enc.arg=true:=by rw [t.qO];rfl
theorem aj.aL (t:aj):t.enc.aL=t.enc:=by rw [t.qO];rfl
theorem aj.xa (t:aj):t.enc.cells=t.cells:=by rw [t.qO];rfl
theorem mF (l:List aj) (i:Nat):(bC l)[i]?=(l[i]?).map aj.enc:=by rw [ln,List.getElem?_map]
theorem ed (l:List aj):(bC l).length=l.length:=by rw [ln,List.length_map]
theorem wrap64 {n:Int} (h : -9223372036854775808≤n) (cC:n<9223372036854775808):IntKind.i64.wrap n=n:=by
 simp only [IntKind.wrap,IntKind.signed,IntKind.bits]
 simp
 omega
end AM
/-! Terms that are related to values have bounded lists; calls of which some result is known to exist. -/
namespace AM
open Go
mutual
def aj.eG:aj→Prop | .mk n l=>n.length≤M∧l.length≤M∧mG l
def mG:List aj→Prop | []=>True | t::r=>t.eG∧mG r
end
mutual
theorem aj.kc {γ:dp}:∀(t:aj) {b off:Nat},dt γ b off t.cells→t.eG
 | .mk n l,b,off,h=>by
  simp only [aj.cells,aj.name,aj.args] at h
  cases h with
  | cons _ _ _ _ v R aa al aY=>cases aY with
   | cons _ _ _ _ bP bn cw dr hL =>
    simp only [aj.eG]
    refine ⟨by cases al with | str _ h=>exact h,?_⟩
    generalize ai:bC l=xs at dr
    cases dr with
    | fP =>
     have:l=[]:=by cases l with | nil=>rfl | cons t r=>simp [bC] at ai
     subst this;simp [mG]
    | list bE lI cap sz _ hM Bv oU =>
     rw [←ai,ed] at hM
     refine ⟨hM,?_⟩
     rw [←ai] at oU
     exact FH l oU
theorem FH {γ:dp}:∀(l:List aj) {b off:Nat},dd γ b off 2 (bC l)→mG l
 | [],_,_,_=>by simp [mG]
 | t::r,b,off,h=>by
  simp only [bC] at h
  cases h with
  | cons _ _ _ _ _ R aa al =>
   simp only [mG]
   rw [aj.xa] at aa
   exact ⟨t.kc aa,FH r al⟩
end
theorem aiq {γ:dp} {l:List aj} {v:Value} (h:cp γ (cN l) v):l.length≤M∧mG l:=by
 unfold cN at h
 generalize ai:bC l=xs at h
 cases h with
 | fP =>
  have:l=[]:=by cases l with | nil=>rfl | cons t r=>simp [bC] at ai
  subst this;simp [mG]
 | list bE lI cap sz _ hM Bv oU =>
  rw [←ai] at oU
  rw [←ai,ed] at hM
  exact ⟨hM,FH l oU⟩
theorem sh {g:a5} {l:List aj} {v:Value} (h:aU g (cN l) v):l.length≤M∧mG l:=by
 unfold cN at h
 cases h with
 | pure _ _ h=>exact aiq h
theorem aj.kd {g:a5} {t:aj} {v:Value} (h:aU g t.enc v):t.eG:=by
 obtain ⟨n,l⟩:=t
 simp only [aj.enc] at h
 obtain ⟨ws,rfl,R,_⟩:=h.jD
 cases R with
 | cons _ _ v ws aa al=>cases al with
  | cons _ _ bP air aY bn =>
   simp only [aj.eG]
   exact ⟨aa.zs,sh aY⟩
section
variable {P:Program} {gl:aR}
theorem a4.assume {f:Nat} {xs:List AV} {r:AV} {B:Prop} (fZ:∀γ vs,bW (tt γ) xs vs→B) (h:B→a4 P gl f xs r):a4 P gl f xs r :=
 fun γ w vs R aa al=>h (fZ γ vs al) γ w vs R aa al
end
open Classical in
section
variable {P:Program} {gl:aR}
end
end AM
/-! Terms read back from data, nil slices as empty ones; the size of terms as the statements count it. -/
namespace AM
open Go
mutual
def fV:AV→Option aj
 | .agg [.str n,.list none 2 l]=>(ke l).map (.mk n)
 | .agg [.str n,.aH 2]=>some (.mk n [])
 | _=>none
def ke:List AV→Option (List aj)
 | []=>some []
 | x::r=>match fV x,ke r with | some t,some l=>some (t::l) | _,_=>none
end
def ia:AV→Option (List aj)
 | .list none 2 l=>ke l
 | .aH 2=>some []
 | _=>none
mutual
theorem si:∀t:aj,fV t.enc=some t
 | .mk n l=>by simp only [aj.enc,fV,z2 l,Option.map_some]
theorem z2:∀l:List aj,ke (bC l)=some l
 | []=>by simp only [bC,ke]
 | t::r=>by simp only [bC,ke,si t,z2 r]
end
theorem sj (l:List aj):ia (cN l)=some l:=z2 l
theorem ais (n:List UInt8) (l:List AV):fV (.agg [.str n,.list none 2 l])=(ke l).map (.mk n):=by simp only [fV]
theorem PN (n:List UInt8) (l:List aj):fV (.agg [.str n,.list none 2 (bC l)])=some (.mk n l):=by rw [ais,z2];rfl
theorem PO {x:AV} {t:aj} (h:fV x=some t):(∃l,x=.agg [.str t.name,.list none 2 l]∧ke l=some t.args)∨(x=.agg [.str t.name,.aH 2]∧t.args=[]):=by
 unfold fV at h
 split at h
 ·simp only [Option.map_eq_some_iff] at h
  obtain ⟨cx,R,rfl⟩:=h
  exact .inl ⟨_,rfl,R⟩
 ·simp only [Option.some.injEq] at h;subst h;exact .inr ⟨rfl,rfl⟩
 ·cases h
theorem PQ {x:AV} {l:List aj} (h:ia x=some l):(∃xs,x=.list none 2 xs∧ke xs=some l)∨(x=.aH 2∧l=[]):=by
 unfold ia at h
 split at h
 ·exact .inl ⟨_,rfl,h⟩
 ·simp only [Option.some.injEq] at h;subst h;exact .inr ⟨rfl,rfl⟩
 ·cases h
theorem PR:∀{xs:List AV} {l:List aj},ke xs=some l→xs.length=l.length
 | [],l,h=>by simp only [ke,Option.some.injEq] at h;subst h;rfl
 | x::r,l,h=>by
  simp only [ke] at h
  split at h
  ·rename_i t cx R aa
   simp only [Option.some.injEq] at h;subst h
   simp [PR aa]
  ·cases h
mutual
theorem ait {γ:dp}:∀(t:aj) {x:AV} {b off:Nat},fV x=some t→dt γ b off x.cells→dt γ b off t.cells
 | .mk n a,x,b,off,h,ao=>by
  rcases PO h with ⟨l,rfl,aN⟩ | ⟨rfl,aN⟩
  ·simp only [aj.cells,AV.cells,aj.name,aj.args] at ao aN ⊢
   cases ao with
   | cons _ _ _ _ v R aa al aY=>cases aY with
    | cons _ _ _ _ bP bn cw dr hL=>exact .cons _ _ _ _ v R aa al (.cons _ _ _ _ bP bn cw (FI a aN dr) (.nil _ _))
  ·simp only [aj.cells,AV.cells,aj.name,aj.args] at ao aN ⊢
   subst aN
   cases ao with
   | cons _ _ _ _ v R aa al aY=>cases aY with
    | cons _ _ _ _ bP bn cw dr hL =>
     cases dr
     exact .cons _ _ _ _ v R aa al (.cons _ _ _ _ _ bn cw (by simp only [bC];exact .fP _ _ _ (by simp)) (.nil _ _))
theorem FI {γ:dp}:∀(a:List aj) {l:List AV} {v:Value},ke l=some a→cp γ (.list none 2 l) v→cp γ (.list none 2 (bC a)) v
 | a,l,v,h,ao=>by
  have aN:=PR h
  cases ao with
  | fP _ base cap ah =>
   have:a=[]:=by cases a with | nil=>rfl | cons _ _=>simp at aN
   subst this
   simp only [bC];exact .fP _ _ _ ah
  | list b off cap _ _ R aa al =>
   rw [show l.length=(bC a).length by rw [ed,aN]]
   exact .list b off cap 2 (bC a) (by rw [ed];omega) (by rw [ed];omega) (PS a h al)
theorem PS {γ:dp}:∀(a:List aj) {l:List AV} {b off:Nat},ke l=some a→dd γ b off 2 l→dd γ b off 2 (bC a)
 | [],l,b,off,h,ao=>by simp only [bC];exact .nil _ _ _
 | t::r,l,b,off,h,ao=>by
  cases l with
  | nil=>simp [ke] at h
  | cons x xs =>
   simp only [ke] at h
   split at h
   ·rename_i ht cx R aa
    simp only [Option.some.injEq,List.cons.injEq] at h
    obtain ⟨rfl,rfl⟩:=h
    cases ao with
    | cons _ _ _ _ _ an ar aO =>
     simp only [bC]
     refine .cons _ _ _ _ _ (by rw [aj.xa];rfl) ?_ (PS _ aa aO)
     rw [aj.xa]
     exact ait _ R ar
   ·cases h
end
theorem aiu {γ:dp} {l:List aj} {x:AV} {v:Value} (h:ia x=some l) (ao:cp γ x v):cp γ (cN l) v:=by
 rcases PQ h with ⟨xs,rfl,ai⟩ | ⟨rfl,rfl⟩
 ·exact FI l ai ao
 ·cases ao
  simp only [cN,bC];exact .fP _ _ _ (by simp)
theorem PT {g:a5} {l:List aj} {x:AV} {v:Value} (h:ia x=some l) (ax:aU g x v):aU g (cN l) v:=by
 rcases PQ h with ⟨xs,rfl,ai⟩ | ⟨rfl,rfl⟩
 ·cases ax with
  | pure _ _ ao=>exact .pure _ _ (FI l ai ao)
 ·cases ax with
  | pure _ _ ao=>exact .pure _ _ (aiu rfl ao)
theorem aiv {g:a5} {t:aj} {x:AV} {v:Value} (h:fV x=some t) (ax:aU g x v):aU g t.enc v:=by
 obtain ⟨n,a⟩:=t
 have ai:∃y,x=.agg [.str n,y]∧ia y=some a:=by
  rcases PO h with ⟨l,rfl,aN⟩ | ⟨rfl,aN⟩
  ·exact ⟨_,rfl,aN⟩
  ·simp only [aj.args] at aN;subst aN;exact ⟨_,rfl,rfl⟩
 obtain ⟨y,rfl,aT⟩:=ai
 obtain ⟨ws,rfl,R,aa⟩:=ax.jD
 simp only [aj.enc]
 cases R with
 | cons _ _ v ws an ar=>cases ar with
  | cons _ _ bP air aO bD=>cases bD;exact .agg _ _ (.cons _ _ _ _ an (.cons _ _ _ _ (PT aT aO) .nil)) aa
end AM
/-! Calls with arguments in other forms of the same data, and with results in a plainer form. -/
namespace AM
open Go
def eZ (x y:AV):Prop:=∀g v,aU g x v→aU g y v
theorem eZ.refl (x:AV):eZ x x:=fun _ _ h=>h
theorem eZ.aH (sz:Nat):eZ (.aH sz) (.list none sz []):=fun g v h=>by
 cases h with
 | pure _ _ h=>cases h;exact .pure _ _ (.fP _ _ _ (by simp))
theorem eZ.disown (e sz:Nat) (xs:List AV):eZ (.list (some e) sz xs) (.list none sz xs):=fun g v h=>by
 cases h with
 | pure _ _ h=>cases h
 | own _ _ _ _ h=>exact .pure _ _ h
theorem eZ.fV {x:AV} {t:aj} (h:fV x=some t):eZ x t.enc:=fun _ _ ax=>aiv h ax
theorem eZ.ia {x:AV} {l:List aj} (h:ia x=some l):eZ x (cN l):=fun _ _ ax=>PT h ax
inductive sk:List AV→List AV→Prop where
 | nil:sk [] []
 | cons {x y:AV} {xs ys:List AV}:eZ x y→sk xs ys→sk (x::xs) (y::ys)
theorem sk.ts {g:a5}:∀{xs ys:List AV} {vs:List Value},sk xs ys→bW g xs vs→bW g ys vs
 | [],_,_,.nil,h=>h
 | _::_,_,_,.cons h aS,.cons _ _ _ _ an ar=>.cons _ _ _ _ (h _ _ an) (aS.ts ar)
theorem eZ.agg {xs ys:List AV} (h:sk xs ys):eZ (.agg xs) (.agg ys):=fun g v ax=>by
 obtain ⟨ws,rfl,R,aa⟩:=ax.jD
 exact .agg _ _ (h.ts R) aa
theorem aj.res (t:aj):t.enc.res=true:=by rw [t.qO];rfl
theorem aj.ux (t:aj):cc t.enc:=by rw [t.qO];exact fun e sz xs h=>by simp at h
theorem PU (l:List aj):cc (cN l):=fun e sz xs h=>by simp [cN] at h
section
variable {P:Program} {gl:aR} {D:cv}
theorem a4.args {f:Nat} {xs ys:List AV} {r:AV} (h:a4 P gl f ys r) (hw:sk xs ys):a4 P gl f xs r :=
 fun γ w vs R aa al=>h γ w vs R aa (hw.ts al)
theorem a4.sl {f:Nat} {c8:ay} {dT:List a2} {xs:List AV} {r:AV} (aP:a8 P f xs.length c8 dT=true) (ai:xs.all AV.arg=true) (aA:r.res=true) (a1:cc r)
  (he:exec P gl D c8 ⟨h8 0 xs,[]⟩ (qB fun s=>∃hS,mw s.env dT=some hS∧eZ hS r)):a4 P gl f xs r:=by
 have af:ec P gl f xs [] fun hS _=>eZ hS r:=ec.intro aP (hD c8 he fun e s h=>by
  cases e with
  | exit i=>exact h
  | normal=>exact h
  | ret=>exact h)
 intro γ w vs jZ wC ax
 let g:a5:=⟨γ,fun b=>if b<w.heap.size then .outer else .none,fun _=>none⟩
 have gb:Rel P gl 0 g (jI []) ob w :=
  ⟨.nil,rfl,rfl,fun t e he=>by simp [jI,Env.get] at he,fun id bt bh=>by simp [jI] at bh,jZ,fun b ah=>by
   by_cases h:b<w.heap.size
   ·exact h
   ·simp [g,h] at ah,wC,fun id b h=>by cases h⟩
 have jd:∀x∈xs,cc x:=fun x k3=>zu (List.all_eq_true.1 ai x k3)
 refine (af.2 g w vs gb (ax.tR ai g rfl) (fun i x v h _=>(jd x (List.mem_of_getElem? h)).fo)).mono ?_
 rintro e w' ⟨v,cQ,H',g',rfl,hw,hle,wD,fR,_⟩
 have jH:∀b,b<w.heap.size→g'.bd b=.outer∧w'.heap[b]?=w.heap[b]?∧∀o,g'.γ b o=γ b o:=fun b ah=>hle.outer b (by simp [g,ah])
 refine ⟨v,g'.γ,rfl,hle.γ,hle.size,fun b ah=>(jH b ah).2,⟨hle.os,hle.out⟩,wD.dY,?_,a1.fo⟩
 exact (hw _ _ fR).DW aA _ rfl
end
attribute [go_sem] Int.cast_ofNat_Int Int.toNat_natCast Int.toNat_zero chunk List.headD_cons
end AM
/-! The program's names, numbers and the order of terms, as functions. Conditions: none; definitions, and lemmas on them. -/
namespace AM
open Go
abbrev cK:=List UInt8
theorem uN {α:Type} {l:List α} {i:Nat} {x:α} (h:l[i]?=some x):l.take (i+1)=l.take i++[x]:=by rw [List.take_add_one,h];rfl
theorem nE {α:Type} {p:α→Bool} {l:List α} {i:Nat} {x:α} (h:l[i]?=some x):(l.take (i+1)).all p=((l.take i).all p&&p x):=by rw [uN h];simp only [List.all_append,List.all_cons,List.all_nil,Bool.and_true]
theorem uO {α:Type} {p:α→Bool} {l:List α} {i:Nat} {x:α} (h:l[i]?=some x) (ao:p x=false):l.all p=false:=by
 rw [Bool.eq_false_iff];intro aa
 have:=List.all_eq_true.1 aa x (List.mem_of_getElem? h)
 rw [ao] at this;cases this
def fN (c:UInt8) (l:List (Nat×Nat)):Bool:=l.any fun p=>decide (p.1≤c.toNat)&&decide (c.toNat≤p.2)
def oy (s:cK) (a b c:Nat×Nat):Bool:=match s with
 | []=>false
 | x::_=>decide (s.length≤16)&&fN x [a]&&s.all fun y=>fN y [a,b,c]
def pO (s:cK):Bool:=oy s (97,122) (48,57) (45,45)&&!(s==[105,102])&&!(s==[97,110,100])&&!(s==[110,111,116])
def iP (s:cK):Bool:=oy s (65,90) (97,122) (48,57)
def du (c:UInt8):Bool:=decide (48≤c.toNat)&&decide (c.toNat≤57)
def fE:cK→Nat→Nat | [],n=>n | c::r,n=>fE r (10*n+(c.toNat - 48))
def gV (s:cK):Option Nat:=match s with
 | []=>none
 | x::r=>if s.length≤4∧¬(x=48∧r≠[])∧s.all du=true then some (fE s 0) else none
def g8 (s:cK):AV:=.bw [.int .i64 ((gV s).getD 0:Nat),.bool (gV s).isSome]
theorem SB:∀(s:cK) (n:Nat),s.all du=true→fE s n+1≤(n+1)*10 ^ s.length
 | [],n,_=>by simp [fE]
 | c::r,n,h=>by
  simp only [List.all_cons,Bool.and_eq_true] at h
  have R:=SB r (10*n+(c.toNat - 48)) h.2
  have aa:c.toNat≤57:=by have:=h.1;simp [du] at this;exact this.2
  simp only [fE,List.length_cons,Nat.pow_succ]
  refine Nat.le_trans R ?_
  rw [show (n+1)*(10 ^ r.length*10)=(10*(n+1))*10 ^ r.length by rw [Nat.mul_comm (10 ^ r.length),←Nat.mul_assoc,Nat.mul_comm (n+1)]]
  exact Nat.mul_le_mul_right _ (by omega)
theorem JM:∀(s:cK) (c:UInt8) (n:Nat),fE (s++[c]) n=10*fE s n+(c.toNat - 48)
 | [],_,_=>rfl
 | _::r,c,n=>by simp only [List.cons_append,fE];exact JM r c _
theorem JN {s:cK} (aw:s.all du=true) (aN:s.length≤4):fE s 0≤9999:=by
 have h:=SB s 0 aw
 have:10 ^ s.length≤10 ^ 4:=Nat.pow_le_pow_right (by decide) aN
 omega
theorem JO {s:cK} (h:gV s=none):g8 s=.bw [.int .i64 0,.bool false]:=by simp [g8,h]
theorem JP {s:cK} {n:Nat} (h:gV s=some n):g8 s=.bw [.int .i64 n,.bool true]:=by simp [g8,h]
def fr (t:aj):Nat×Nat×Nat×cK :=
 if t.args.length>0 then (3,0,t.args.length,t.name)
 else match gV t.name with
  | some n=>(0,n,0,[])
  | none=>if iP t.name then (2,0,0,t.name) else (1,0,0,t.name)
def qT (k:Nat×Nat×Nat×cK):AV:=.agg [.int .i64 k.1,.int .i64 k.2.1,.int .i64 k.2.2.1,.str k.2.2.2]
def eo (a b:Nat):Int:=if a<b then -1 else if b<a then 1 else 0
mutual
def bJ:aj→aj→Int
 | .mk n a,.mk m b =>
  let x:=fr (.mk n a);let y:=fr (.mk m b)
  if x=y then dm a b
  else if x.1≠y.1 then eo x.1 y.1
  else if x.2.1≠y.2.1 then eo x.2.1 y.2.1
  else if x.2.2.1≠y.2.2.1 then eo x.2.2.1 y.2.2.1
  else da x.2.2.2 y.2.2.2
def dm:List aj→List aj→Int
 | [],[]=>0
 | [],_::_=>-1
 | _::_,[]=>1
 | s::r,t::u=>let c:=bJ s t;if c=0 then dm r u else c
end
theorem SC (t u:aj):bJ t u=if fr t=fr u then dm t.args u.args
  else if (fr t).1≠(fr u).1 then eo (fr t).1 (fr u).1
  else if (fr t).2.1≠(fr u).2.1 then eo (fr t).2.1 (fr u).2.1
  else if (fr t).2.2.1≠(fr u).2.2.1 then eo (fr t).2.2.1 (fr u).2.2.1
  else da (fr t).2.2.2 (fr u).2.2.2:=by
 obtain ⟨n,a⟩:=t
 obtain ⟨m,b⟩:=u
 simp only [bJ,aj.args]
theorem SD (l m:List aj) (h:l.length=0∨m.length=0):dm l m=eo l.length m.length:=by
 cases l<;>cases m<;>simp_all [dm,eo]
theorem SE {l m:List aj} {i:Nat} {t u:aj} (R:l[i]?=some t) (aa:m[i]?=some u):dm (l.drop i) (m.drop i)=if bJ t u=0 then dm (l.drop (i+1)) (m.drop (i+1)) else bJ t u:=by
 have de:=List.drop_eq_getElem_cons (List.getElem?_eq_some_iff.1 R).1
 have dR:=List.drop_eq_getElem_cons (List.getElem?_eq_some_iff.1 aa).1
 rw [(List.getElem?_eq_some_iff.1 R).2] at de
 rw [(List.getElem?_eq_some_iff.1 aa).2] at dR
 rw [de,dR];simp only [dm]
theorem SF {α:Type} (l m:List α) (i:Nat) (R:i≤l.length) (aa:i≤m.length):eo (l.drop i).length (m.drop i).length=eo l.length m.length:=by
 simp only [eo,List.length_drop]
 by_cases a:l.length<m.length
 ·rw [if_pos a,if_pos (by omega)]
 ·rw [if_neg a,if_neg (by omega)]
  by_cases b:m.length<l.length
  ·rw [if_pos b,if_pos (by omega)]
  ·rw [if_neg b,if_neg (by omega)]
mutual
def lZ:aj→aj→Bool | .mk n a,.mk m b=>n==m&&gW a b
def gW:List aj→List aj→Bool | [],[]=>true | s::r,t::u=>lZ s t&&gW r u | _,_=>false
end
mutual
theorem alC:∀(t u:aj),lZ t u=true↔t=u
 | .mk n a,.mk m b=>by simp only [lZ,Bool.and_eq_true,beq_iff_eq,Au a b,aj.mk.injEq]
theorem Au:∀(l m:List aj),gW l m=true↔l=m
 | [],[]=>by simp [gW]
 | [],_::_=>by simp [gW]
 | _::_,[]=>by simp [gW]
 | s::r,t::u=>by simp only [gW,Bool.and_eq_true,alC s t,Au r u,List.cons.injEq]
end
theorem alD {l m:List aj} (h:l.length≠m.length):gW l m=false:=by
 rw [Bool.eq_false_iff];intro aa;rw [Au] at aa;exact h (by rw [aa])
theorem alE {l m:List aj} {i:Nat} {t u:aj} (R:l[i]?=some t) (aa:m[i]?=some u):gW (l.drop i) (m.drop i)=(lZ t u&&gW (l.drop (i+1)) (m.drop (i+1))):=by
 have de:=List.drop_eq_getElem_cons (List.getElem?_eq_some_iff.1 R).1
 have dR:=List.drop_eq_getElem_cons (List.getElem?_eq_some_iff.1 aa).1
 rw [(List.getElem?_eq_some_iff.1 R).2] at de
 rw [(List.getElem?_eq_some_iff.1 aa).2] at dR
 rw [de,dR];simp only [gW]
def uP:Nat→aj→Bool→Bool
 | 0,_,_=>false
 | n+1,t,v=>decide (t.args.length≤4)&&(if t.args.length=0 then pO t.name||(gV t.name).isSome||(v&&iP t.name) else t.args.all (fun u=>uP n u v)&&pO t.name)
end AM
/-! The order of terms as the specification says it. -/
namespace AM
open Go
def hT (s:cK):Nat:=(gV s).getD 0
def gi (t:aj):Nat:=if t.args.length>0 then 3 else if (gV t.name).isSome then 0 else if iP t.name then 2 else 1
theorem SP (t:aj):fr t=(gi t,if gi t=0 then hT t.name else 0,t.args.length,if gi t=0 then [] else t.name):=by
 unfold fr gi hT
 by_cases h:t.args.length>0
 ·simp [h]
 ·have a0:t.args.length=0:=by omega
  simp only [h,if_false]
  cases a1:gV t.name with
  | some n=>simp [a0]
  | none =>
   cases ax:iP t.name<;>simp [a0]
theorem JU {t:aj} (h:gi t≠3):t.args=[]:=by
 unfold gi at h
 by_cases R:t.args.length>0
 ·simp [R] at h
 ·exact List.eq_nil_of_length_eq_zero (by omega)
theorem pP:∀{a b:cK},da a b=0↔a=b
 | [],[]=>by simp [da]
 | [],_::_=>by simp [da]
 | _::_,[]=>by simp [da]
 | x::r,y::t=>by
  simp only [da]
  by_cases h:x=y
  ·subst h;simp [pP (a:=r) (b:=t)]
  ·simp only [h,if_false]
   split<;>simp [h]
theorem al5 (t u:aj):bJ t u=if gi t≠gi u then eo (gi t) (gi u)
  else if gi t=0 then eo (hT t.name) (hT u.name)
  else if t.args.length≠u.args.length then eo t.args.length u.args.length
  else if da t.name u.name≠0 then da t.name u.name else dm t.args u.args:=by
 rw [SC,SP t,SP u]
 generalize af:gi t=c
 generalize aw:gi u=d
 by_cases R:c=d
 ·subst R
  by_cases aa:c=0
  ·subst aa
   have aZ:=JU (t:=t) (by omega)
   have ah:=JU (t:=u) (by omega)
   by_cases al:hT t.name=hT u.name
   ·simp [aZ,ah,al,dm,eo]
   ·simp [aZ,ah,al]
  ·by_cases al:t.args.length=u.args.length
   ·by_cases aY:t.name=u.name
    ·simp [aa,al,aY,pP.2 rfl]
    ·have bn:da t.name u.name≠0:=fun h=>aY (pP.1 h)
     simp [aa,al,aY,bn]
   ·simp [aa,al]
 ·simp [R]
def nF (c d v w pQ pR:Nat) (s l:Int):Int:=if c≠d then eo c d else if c=0 then eo v w else if pQ≠pR then eo pQ pR else if s≠0 then s else l
theorem uR (t u:aj):bJ t u=nF (gi t) (gi u) (hT t.name) (hT u.name) t.args.length u.args.length (da t.name u.name) (dm t.args u.args):=by rw [al5];rfl
theorem JV:∀(a b:cK),da a b=if Op.bytesLess a b=true then -1 else if Op.bytesLess b a=true then 1 else 0
 | [],[]=>by simp [da,Op.bytesLess]
 | [],_::_=>by simp [da,Op.bytesLess]
 | _::_,[]=>by simp [da,Op.bytesLess]
 | x::r,y::t=>by
  simp only [da,Op.bytesLess]
  by_cases h:x=y
  ·subst h
   simp [JV r t]
  ·by_cases aa:x<y
   ·simp [h,aa]
   ·have al:y<x:=by
     rcases Nat.lt_trichotomy x.toNat y.toNat with g | g | g
     ·exact absurd (UInt8.lt_iff_toNat_lt.2 g) aa
     ·exact absurd (UInt8.toNat_inj.1 g) h
     ·exact UInt8.lt_iff_toNat_lt.2 g
    simp [h,aa,al]
end AM
/-! Insertion into lists of terms by a search in halves. -/
namespace AM
open Go
def jn (l:List aj) (t:aj):Nat→Nat→Nat→Nat
 | 0,aX,_=>aX
 | f+1,aX,av=>if aX<av then (match l[(aX+av) / 2]? with
  | some x=>if bJ x t<0 then jn l t f ((aX+av) / 2+1) av else jn l t f aX ((aX+av) / 2)
  | none=>aX) else aX
theorem uT (l:List aj) (t:aj) {aX av:Nat} (h:av≤aX):∀f,jn l t f aX av=aX
 | 0=>rfl
 | f+1=>by simp only [jn,if_neg (show ¬aX<av by omega)]
theorem qV (l:List aj) (t:aj):∀f aX av,av - aX≤f→jn l t (f+1) aX av=jn l t f aX av
 | 0,aX,av,h=>by rw [uT l t (by omega),uT l t (by omega)]
 | f+1,aX,av,h=>by
  by_cases R:aX<av
  ·conv=>lhs;unfold jn
   conv=>rhs;unfold jn
   simp only [if_pos R]
   cases l[(aX+av) / 2]? with
   | none=>rfl
   | some x =>
    simp only
    split
    ·exact qV l t f _ _ (by omega)
    ·exact qV l t f _ _ (by omega)
  ·rw [uT l t (by omega),uT l t (by omega)]
theorem S0 (l:List aj) (t:aj) {f aX av:Nat} (h:av - aX≤f) (R:aX<av) {x:aj} (ai:l[(aX+av) / 2]?=some x) :
  jn l t f aX av=if bJ x t<0 then jn l t f ((aX+av) / 2+1) av else jn l t f aX ((aX+av) / 2):=by
 cases f with
 | zero=>omega
 | succ f =>
  conv=>lhs;unfold jn
  simp only [if_pos R,ai]
  rw [qV l t f _ _ (by omega),qV l t f _ _ (by omega)]
def ic (l:List aj) (t:aj):Nat:=jn l t l.length 0 l.length
def ie (l:List aj) (t:aj):List aj:=match l[ic l t]? with
 | some x=>if bJ x t=0 then l else l.take (ic l t)++t::l.drop (ic l t)
 | none=>l.take (ic l t)++t::l.drop (ic l t)
theorem amk (l:List aj) (t:aj):(ie l t).length≤l.length+1:=by
 unfold ie
 have h:∀n,(l.take n++t::l.drop n).length≤l.length+1:=fun n=>by simp only [List.length_append,List.length_cons,List.length_take,List.length_drop];omega
 split
 ·split
  ·omega
  ·exact h _
 ·exact h _
def dW (l:List aj) (r:List aj):List aj:=r.foldl ie l
theorem xn:∀(r l:List aj),(dW l r).length≤l.length+r.length
 | [],l=>by simp [dW]
 | t::r,l=>by
  have h:=xn r (ie l t)
  have aa:=amk l t
  simp only [dW,List.foldl_cons,List.length_cons] at h ⊢
  omega
theorem S1 (l r:List aj) (t:aj):dW l (r++[t])=ie (dW l r) t:=by simp only [dW,List.foldl_append,List.foldl_cons,List.foldl_nil]
def gx (f:aj):aj:=.mk [116,114,117,101] [f]
def fs (r j:aj):aj:=.mk [100,111,101,115] [r,j]
def g9 (state eh ep:List aj):List aj:=dW [] (state.map gx++List.zipWith fs ep eh)
end AM
