/- Rows of terms sorted; slices.Clone. Conditions: none. -/
import Derived.Test.YtjpfdkecffnlbaaGreatDoorW5
set_option maxRecDepth 100000
set_option maxHeartbeats 4000000
set_option linter.unusedSimpArgs false
set_option linter.unusedVariables false
namespace AM
open Go Go.Proofs
open Enc (enc)
theorem aoo {H:List aM} {id:Nat} (bG:id<H.length) {L:Nat} (c7:L≤M) {l:List aj} (dy:l.length=L) :
  ec Tryz.prog bq 120 [.bI id 0 L 2,.int .i64 L,.fn 75 []] (eM 38 H id l)
   fun r H'=>r=.bw []∧∃cx,H'=eM 38 H id cx∧c1 l cx 0 L∧di bJ cx 0 L:=by
 have nO:M=1099511627776:=rfl
 refine ec.intro (D:=kh) RK ?_
 unfold HQ
 simp (disch:=first | assumption | omega) only [go_sem,Int.reduceLE,Int.reduceLT,Int.reduceToNat,Int.reduceAdd,Int.reduceSub,↓reduceIte,Nat.reduceBEq,Nat.reduceAdd,Nat.reduceSub,Nat.reduceMul,Nat.reduceLT,Nat.reduceEqDiff,reduceCtorEq,Nat.reduceLeDiff]
 refine e8 (fun p:Nat×Nat×Nat×List aj=>⟨N [(0,.v (.bI id 0 L 2)),(1,.v (enc L)),(2,.v (.fn 75 [])),(6,.v (.int .i64 20)),(7,.v (enc p.2.1)),(8,.v (enc p.2.2.1))],eM 38 H id p.2.2.2⟩)
  (fun p=>p.2.1=20*p.1∧p.2.2.1=p.2.1+20∧p.2.1≤L∧c1 l p.2.2.2 0 L∧sx bJ p.2.2.2 20 p.1) (fun p=>L - p.2.1) (0,0,20,l)
  ⟨rfl,rfl,Nat.zero_le _,c1.refl _ _ _,fun w p q h=>by simp only at h;omega⟩ (by (try simp (disch:=first | assumption | omega) only [go_sem,Int.reduceLE,Int.reduceLT,Int.reduceToNat,Int.reduceAdd,Int.reduceSub,↓reduceIte,Nat.reduceBEq,Nat.reduceAdd,Nat.reduceSub,Nat.reduceMul,Nat.reduceLT,Nat.reduceEqDiff,reduceCtorEq,Nat.reduceLeDiff])<;>(first | rfl | (simp (disch:=first | assumption | omega) only [b7,List.foldr_cons,List.foldr_nil,Env.ins,dB,dC,dD,dE,dF,dG,dH,dI,aj.cP,List.length_map,Int.natCast_add,Int.natCast_one,Int.natCast_zero,List.take_zero,dJ,List.map_append,List.map_cons,List.map_nil,dN,dO,Int.reduceLE,Int.reduceLT,Int.reduceToNat,Int.reduceAdd,Int.reduceSub,↓reduceIte,Nat.reduceBEq,Nat.reduceAdd,Nat.reduceSub,Nat.reduceMul,Nat.reduceLT,Nat.reduceEqDiff,reduceCtorEq,Nat.reduceLeDiff];try rfl))) ?_
 rintro ⟨u,a,b,cT⟩ ⟨i1,i2,i3,i4,i5⟩
 simp only at i1 i2 i3 i4 i5
 have n6:cT.length=L:=i4.len.trans dy
 by_cases ah:b≤L
 ·(repeat' (first | (simp (disch:=first | assumption | omega) only [go_sem,lq,lo,lp,Int.reduceLE,Int.reduceLT,Int.reduceToNat,Int.reduceAdd,Int.reduceSub,↓reduceIte,Nat.reduceBEq,Nat.reduceAdd,Nat.reduceSub,Nat.reduceMul,Nat.reduceLT,Nat.reduceEqDiff,reduceCtorEq,Nat.reduceLeDiff]) | (refine cm ?_ ?_<;>intro) | (refine nN (T0 bG n6 a b (by omega) ah c7) (nM kR _ (by omega)) ?_)))
  rintro cn ⟨cr,cX⟩
  (repeat' (first | (simp (disch:=first | assumption | omega) only [go_sem,lq,lo,lp,Int.reduceLE,Int.reduceLT,Int.reduceToNat,Int.reduceAdd,Int.reduceSub,↓reduceIte,Nat.reduceBEq,Nat.reduceAdd,Nat.reduceSub,Nat.reduceMul,Nat.reduceLT,Nat.reduceEqDiff,reduceCtorEq,Nat.reduceLeDiff]) | (refine cm ?_ ?_<;>intro)))
  exact ⟨(u+1,b,b+20,cn),⟨by simp only;omega,rfl,ah,i4.trans (cr.mono (by omega) (by omega)),i5.step i1 (by omega) cr cX⟩,by simp only;omega,by (first | rfl | (simp (disch:=first | assumption | omega) only [b7,List.foldr_cons,List.foldr_nil,Env.ins,dB,dC,dD,dE,dF,dG,dH,dI,aj.cP,List.length_map,Int.natCast_add,Int.natCast_one,Int.natCast_zero,List.take_zero,dJ,List.map_append,List.map_cons,List.map_nil,dN,dO,Int.reduceLE,Int.reduceLT,Int.reduceToNat,Int.reduceAdd,Int.reduceSub,↓reduceIte,Nat.reduceBEq,Nat.reduceAdd,Nat.reduceSub,Nat.reduceMul,Nat.reduceLT,Nat.reduceEqDiff,reduceCtorEq,Nat.reduceLeDiff];try rfl))⟩
 (repeat' (first | (simp (disch:=first | assumption | omega) only [go_sem,lq,lo,lp,Int.reduceLE,Int.reduceLT,Int.reduceToNat,Int.reduceAdd,Int.reduceSub,↓reduceIte,Nat.reduceBEq,Nat.reduceAdd,Nat.reduceSub,Nat.reduceMul,Nat.reduceLT,Nat.reduceEqDiff,reduceCtorEq,Nat.reduceLeDiff]) | (refine cm ?_ ?_<;>intro) | (refine nN (T0 bG n6 a L i3 (Nat.le_refl _) c7) (nM kR _ (by omega)) ?_)))
 rintro cn ⟨cr,cX⟩
 have i6:=i4.trans (cr.mono (Nat.zero_le _) (Nat.le_refl _))
 have i7:l5 bJ cn L 20 0:=i5.last i1 (by omega) cr cX
 clear i4 i5 cr cX
 (repeat' (first | (simp (disch:=first | assumption | omega) only [go_sem,lq,lo,lp,Int.reduceLE,Int.reduceLT,Int.reduceToNat,Int.reduceAdd,Int.reduceSub,↓reduceIte,Nat.reduceBEq,Nat.reduceAdd,Nat.reduceSub,Nat.reduceMul,Nat.reduceLT,Nat.reduceEqDiff,reduceCtorEq,Nat.reduceLeDiff]) | (refine cm ?_ ?_<;>intro)))
 refine e8 (fun p:Nat×List aj=>⟨N [(0,.v (.bI id 0 L 2)),(1,.v (enc L)),(2,.v (.fn 75 [])),(6,.v (enc p.1))],eM 38 H id p.2⟩)
  (fun p=>1≤p.1∧p.1≤2*L+40∧c1 l p.2 0 L∧l5 bJ p.2 L p.1 0) (fun p=>L - p.1) (20,cn)
  ⟨by simp only;omega,by simp only;omega,i6,i7⟩ (by (try simp (disch:=first | assumption | omega) only [go_sem,Int.reduceLE,Int.reduceLT,Int.reduceToNat,Int.reduceAdd,Int.reduceSub,↓reduceIte,Nat.reduceBEq,Nat.reduceAdd,Nat.reduceSub,Nat.reduceMul,Nat.reduceLT,Nat.reduceEqDiff,reduceCtorEq,Nat.reduceLeDiff])<;>(first | rfl | (simp (disch:=first | assumption | omega) only [b7,List.foldr_cons,List.foldr_nil,Env.ins,dB,dC,dD,dE,dF,dG,dH,dI,aj.cP,List.length_map,Int.natCast_add,Int.natCast_one,Int.natCast_zero,List.take_zero,dJ,List.map_append,List.map_cons,List.map_nil,dN,dO,Int.reduceLE,Int.reduceLT,Int.reduceToNat,Int.reduceAdd,Int.reduceSub,↓reduceIte,Nat.reduceBEq,Nat.reduceAdd,Nat.reduceSub,Nat.reduceMul,Nat.reduceLT,Nat.reduceEqDiff,reduceCtorEq,Nat.reduceLeDiff];try rfl))) ?_
 clear i6 i7 n6 i1 i2 i3 ah
 rintro ⟨s,fC⟩ ⟨i1,i2,i3,i4⟩
 simp only at i1 i2 i3 i4
 have arc:fC.length=L:=i3.len.trans dy
 by_cases aS:s<L
 ·obtain ⟨t,aF⟩:∃t,t=2*s:=⟨_,rfl⟩
  have cf:(2:Int)*(s:Int)=(t:Int):=by omega
  have cY:(s:Int)*2=(t:Int):=by omega
  (repeat' (first | (simp (disch:=first | assumption | omega) only [go_sem,lq,lo,lp,cf,Int.reduceLE,Int.reduceLT,Int.reduceToNat,Int.reduceAdd,Int.reduceSub,↓reduceIte,Nat.reduceBEq,Nat.reduceAdd,Nat.reduceSub,Nat.reduceMul,Nat.reduceLT,Nat.reduceEqDiff,reduceCtorEq,Nat.reduceLeDiff]) | (refine cm ?_ ?_<;>intro)))
  refine e8 (fun p:Nat×Nat×Nat×List aj=>⟨N [(0,.v (.bI id 0 L 2)),(1,.v (enc L)),(2,.v (.fn 75 [])),(6,.v (enc s)),(7,.v (enc p.2.1)),(8,.v (enc p.2.2.1))],eM 38 H id p.2.2.2⟩)
   (fun p=>p.2.1=t*p.1∧p.2.2.1=p.2.1+t∧p.2.1≤L∧c1 l p.2.2.2 0 L∧sx bJ p.2.2.2 t p.1∧l5 bJ p.2.2.2 L s (2*p.1)) (fun p=>L - p.2.1) (0,0,t,fC)
   ⟨rfl,by simp only;omega,Nat.zero_le _,i3,(fun w p q h=>by simp only at h;omega),i4⟩ (by (try simp (disch:=first | assumption | omega) only [go_sem,cf,Int.reduceLE,Int.reduceLT,Int.reduceToNat,Int.reduceAdd,Int.reduceSub,↓reduceIte,Nat.reduceBEq,Nat.reduceAdd,Nat.reduceSub,Nat.reduceMul,Nat.reduceLT,Nat.reduceEqDiff,reduceCtorEq,Nat.reduceLeDiff])<;>(first | rfl | (simp (disch:=first | assumption | omega) only [b7,List.foldr_cons,List.foldr_nil,Env.ins,dB,dC,dD,dE,dF,dG,dH,dI,aj.cP,List.length_map,Int.natCast_add,Int.natCast_one,Int.natCast_zero,List.take_zero,dJ,List.map_append,List.map_cons,List.map_nil,dN,dO,cf,Int.reduceLE,Int.reduceLT,Int.reduceToNat,Int.reduceAdd,Int.reduceSub,↓reduceIte,Nat.reduceBEq,Nat.reduceAdd,Nat.reduceSub,Nat.reduceMul,Nat.reduceLT,Nat.reduceEqDiff,reduceCtorEq,Nat.reduceLeDiff];try rfl))) ?_
  rintro ⟨u,a,b,nh⟩ ⟨e6,iQ,hJ,gX,iz,sA⟩
  simp only at e6 iQ hJ gX iz sA
  have T5:nh.length=L:=gX.len.trans dy
  obtain ⟨m,hm⟩:∃m,m=a+s:=⟨_,rfl⟩
  have eS:(a:Int)+(s:Int)=(m:Int):=by omega
  have xJ:a=2*s*u:=by rw [e6,aF]
  by_cases ah:b≤L
  ·(repeat' (first | (simp (disch:=first | assumption | omega) only [go_sem,lq,lo,lp,cf,eS,Int.reduceLE,Int.reduceLT,Int.reduceToNat,Int.reduceAdd,Int.reduceSub,↓reduceIte,Nat.reduceBEq,Nat.reduceAdd,Nat.reduceSub,Nat.reduceMul,Nat.reduceLT,Nat.reduceEqDiff,reduceCtorEq,Nat.reduceLeDiff]) | (refine cm ?_ ?_<;>intro) | (refine nN (T3 bG c7 (b - a) nh a m b (Nat.le_refl _) (by omega) (by omega) ah T5 (hm▸sA.TS xJ (by omega)) (hm▸sA.TT xJ (by omega) ah)) (nM kR _ (by omega)) ?_)))
   rintro ql ⟨cr,cX⟩
   (repeat' (first | (simp (disch:=first | assumption | omega) only [go_sem,lq,lo,lp,cf,Int.reduceLE,Int.reduceLT,Int.reduceToNat,Int.reduceAdd,Int.reduceSub,↓reduceIte,Nat.reduceBEq,Nat.reduceAdd,Nat.reduceSub,Nat.reduceMul,Nat.reduceLT,Nat.reduceEqDiff,reduceCtorEq,Nat.reduceLeDiff]) | (refine cm ?_ ?_<;>intro)))
   exact ⟨(u+1,b,b+t,ql),⟨by simp only;rw [Nat.mul_succ,←e6];exact iQ,rfl,ah,gX.trans (cr.mono (by omega) (by omega)),iz.step e6 (by rw [Nat.mul_succ,←e6];exact iQ) cr cX,sA.step xJ (by omega) cr⟩,by simp only;omega,by (first | rfl | (simp (disch:=first | assumption | omega) only [b7,List.foldr_cons,List.foldr_nil,Env.ins,dB,dC,dD,dE,dF,dG,dH,dI,aj.cP,List.length_map,Int.natCast_add,Int.natCast_one,Int.natCast_zero,List.take_zero,dJ,List.map_append,List.map_cons,List.map_nil,dN,dO,Int.reduceLE,Int.reduceLT,Int.reduceToNat,Int.reduceAdd,Int.reduceSub,↓reduceIte,Nat.reduceBEq,Nat.reduceAdd,Nat.reduceSub,Nat.reduceMul,Nat.reduceLT,Nat.reduceEqDiff,reduceCtorEq,Nat.reduceLeDiff];try rfl))⟩
  ·by_cases aop:m<L
   ·(repeat' (first | (simp (disch:=first | assumption | omega) only [go_sem,lq,lo,lp,cf,cY,eS,Int.reduceLE,Int.reduceLT,Int.reduceToNat,Int.reduceAdd,Int.reduceSub,↓reduceIte,Nat.reduceBEq,Nat.reduceAdd,Nat.reduceSub,Nat.reduceMul,Nat.reduceLT,Nat.reduceEqDiff,reduceCtorEq,Nat.reduceLeDiff]) | (refine cm ?_ ?_<;>intro) | (refine nN (T3 bG c7 (L - a) nh a m L (Nat.le_refl _) (by omega) aop (Nat.le_refl _) T5 (hm▸sA.TS xJ (by omega)) (hm▸sA.TT xJ (by omega) (Nat.le_refl _))) (nM kR _ (by omega)) ?_)))
    rintro ql ⟨cr,cX⟩
    (repeat' (first | (simp (disch:=first | assumption | omega) only [go_sem,lq,lo,lp,cf,cY,Int.reduceLE,Int.reduceLT,Int.reduceToNat,Int.reduceAdd,Int.reduceSub,↓reduceIte,Nat.reduceBEq,Nat.reduceAdd,Nat.reduceSub,Nat.reduceMul,Nat.reduceLT,Nat.reduceEqDiff,reduceCtorEq,Nat.reduceLeDiff]) | (refine cm ?_ ?_<;>intro)))
    exact ⟨(t,ql),⟨by simp only;omega,by simp only;omega,gX.trans (cr.mono (Nat.zero_le _) (Nat.le_refl _)),iz.last e6 (by omega) cr cX⟩,by simp only;omega,by (first | rfl | (simp (disch:=first | assumption | omega) only [b7,List.foldr_cons,List.foldr_nil,Env.ins,dB,dC,dD,dE,dF,dG,dH,dI,aj.cP,List.length_map,Int.natCast_add,Int.natCast_one,Int.natCast_zero,List.take_zero,dJ,List.map_append,List.map_cons,List.map_nil,dN,dO,Int.reduceLE,Int.reduceLT,Int.reduceToNat,Int.reduceAdd,Int.reduceSub,↓reduceIte,Nat.reduceBEq,Nat.reduceAdd,Nat.reduceSub,Nat.reduceMul,Nat.reduceLT,Nat.reduceEqDiff,reduceCtorEq,Nat.reduceLeDiff];try rfl))⟩
   ·(repeat' (first | (simp (disch:=first | assumption | omega) only [go_sem,lq,lo,lp,cf,cY,eS,Int.reduceLE,Int.reduceLT,Int.reduceToNat,Int.reduceAdd,Int.reduceSub,↓reduceIte,Nat.reduceBEq,Nat.reduceAdd,Nat.reduceSub,Nat.reduceMul,Nat.reduceLT,Nat.reduceEqDiff,reduceCtorEq,Nat.reduceLeDiff]) | (refine cm ?_ ?_<;>intro)))
    exact ⟨(t,nh),⟨by simp only;omega,by simp only;omega,gX,iz.last e6 (by omega) (c1.refl _ _ _) fun p q v1 v2 hn=>sA (2*u) p q (Nat.le_refl _) (by rw [←Nat.mul_assoc,Nat.mul_comm s 2];omega) v2 (by rw [Nat.mul_add,←Nat.mul_assoc,Nat.mul_comm s 2];omega) hn⟩,by simp only;omega,by (first | rfl | (simp (disch:=first | assumption | omega) only [b7,List.foldr_cons,List.foldr_nil,Env.ins,dB,dC,dD,dE,dF,dG,dH,dI,aj.cP,List.length_map,Int.natCast_add,Int.natCast_one,Int.natCast_zero,List.take_zero,dJ,List.map_append,List.map_cons,List.map_nil,dN,dO,Int.reduceLE,Int.reduceLT,Int.reduceToNat,Int.reduceAdd,Int.reduceSub,↓reduceIte,Nat.reduceBEq,Nat.reduceAdd,Nat.reduceSub,Nat.reduceMul,Nat.reduceLT,Nat.reduceEqDiff,reduceCtorEq,Nat.reduceLeDiff];try rfl))⟩
 ·(repeat' (first | (simp (disch:=first | assumption | omega) only [go_sem,lq,lo,lp,Int.reduceLE,Int.reduceLT,Int.reduceToNat,Int.reduceAdd,Int.reduceSub,↓reduceIte,Nat.reduceBEq,Nat.reduceAdd,Nat.reduceSub,Nat.reduceMul,Nat.reduceLT,Nat.reduceEqDiff,reduceCtorEq,Nat.reduceLeDiff]) | (refine cm ?_ ?_<;>intro)))
  exact ⟨_,rfl,rfl,fC,rfl,i3,i4.full (by omega)⟩
theorem aoq {H:List aM} {id:Nat} (bG:id<H.length) {L:Nat} (c7:L≤M) {l:List aj} (dy:l.length=L) :
  ec Tryz.prog bq 74 [.bI id 0 L 2,.fn 75 []] (eM 38 H id l)
   fun r H'=>r=.bw []∧∃cx,H'=eM 38 H id cx∧c1 l cx 0 L∧di bJ cx 0 L:=by
 refine ec.intro (D:=kh) As ?_
 unfold xh
 (repeat' (first | (simp (disch:=first | assumption | omega) only [go_sem,uE,Int.reduceLE,Int.reduceLT,Int.reduceToNat,Int.reduceAdd,Int.reduceSub,↓reduceIte,Nat.reduceBEq,Nat.reduceAdd,Nat.reduceSub,Nat.reduceMul,Nat.reduceLT,Nat.reduceEqDiff,reduceCtorEq,Nat.reduceLeDiff]) | (refine cm ?_ ?_<;>intro) | (refine nN (aoo bG c7 dy) (nM kR _ (by omega)) ?_)))
 rintro cn ⟨cr,cX⟩
 (repeat' (first | (simp (disch:=first | assumption | omega) only [go_sem,uE,Int.reduceLE,Int.reduceLT,Int.reduceToNat,Int.reduceAdd,Int.reduceSub,↓reduceIte,Nat.reduceBEq,Nat.reduceAdd,Nat.reduceSub,Nat.reduceMul,Nat.reduceLT,Nat.reduceEqDiff,reduceCtorEq,Nat.reduceLeDiff]) | (refine cm ?_ ?_<;>intro)))
 exact ⟨_,rfl,rfl,cn,rfl,cr,cX⟩
end AM
