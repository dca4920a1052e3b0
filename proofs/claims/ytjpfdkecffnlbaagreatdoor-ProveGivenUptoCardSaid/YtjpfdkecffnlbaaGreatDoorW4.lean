/- Sorting rows of terms in place by merging. Conditions: none. -/
import Derived.Test.YtjpfdkecffnlbaaGreatDoorW3
set_option maxRecDepth 100000
set_option maxHeartbeats 4000000
set_option linter.unusedSimpArgs false
set_option linter.unusedVariables false
namespace AM
open Go Go.Proofs
open Enc (enc)
def T1 (H:List aM) (id L n:Nat):Prop:=∀(l:List aj) (a m b:Nat),b - a≤n→a<m→m<b→b≤L→l.length=L→di bJ l a m→di bJ l m b →
  ec Tryz.prog bq 160 [.bI id 0 L 2,.int .i64 a,.int .i64 m,.int .i64 b,.fn 75 []] (eM 38 H id l)
   fun r H'=>r=.bw []∧∃cx,H'=eM 38 H id cx∧c1 l cx a b∧di bJ cx a b
theorem T2 {H:List aM} {id:Nat} (bG:id<H.length) {L:Nat} (c7:L≤M) {n:Nat} (ih:T1 H id L n) {l:List aj} {a m b s a7:Nat} (a0:b - a≤n+1) (R:a<m) (aa:m<b) (al:b≤L) (dy:l.length=L)
  (aS:di bJ l a m) (eD:di bJ l m b) (xI:a7=(a+b) / 2) (e6:a≤s) (iQ:s≤m) (hJ:s≤a7) (a1:a7+m≤s+b) (hm:a<a7) (k7:a7<b)
  (dk:s=a∨a7+m=s+b∨¬bJ l[a7+m - 1 - (s - 1)]! l[s - 1]! < 0) (fZ:s=m∨s=a7∨bJ l[a7+m - 1 - s]! l[s]! < 0) (x:AV) (y:Nat) :
  hI Tryz.prog bq kh gw ⟨N [(151,.v x),(0,.v (.bI id 0 L 2)),(1,.v (.int .i64 a)),(2,.v (.int .i64 m)),(3,.v (.int .i64 b)),(4,.v (.fn 75 [])),(18,.v (.int .i64 a7)),(19,.v (.int .i64 ((a7:Int)+m))),(20,.v (.int .i64 s)),(21,.v (.int .i64 y)),(22,.v (.int .i64 ((a7+m - 1:Nat):Int)))],eM 38 H id l⟩ (qB fun s=>∃r,some (AV.bw [])=some r∧r=.bw []∧∃cx,s.heap=eM 38 H id cx∧c1 l cx a b∧di bJ cx a b) ⟨⟩:=by
 have nO:M=1099511627776:=rfl
 have he:((a7:Int)+(m:Int)) - (s:Int)=((a7+m - s:Nat):Int):=by omega
 obtain ⟨cT,n6,fK,u4⟩:∃cT,(∀k:Nat,cT[k]! = jr l s m (a7+m - s) k)∧c1 l cT a b∧(if s<m∧m<a7+m - s then cT=oF l s m (a7+m - s) else cT=l):=by
  by_cases h:s<m∧m<a7+m - s
  ·exact ⟨_,fun k=>Km l (by omega) (by omega) (by omega) k,(an7 (by omega) (by omega) (Kl _ _ _ _) fun k=>Km l (by omega) (by omega) (by omega) k).mono (by omega) (by omega),by rw [if_pos h]⟩
  ·refine ⟨l,fun k=>?_,c1.refl _ _ _,by rw [if_neg h]⟩
   unfold jr
   by_cases aa:s<m
   ·rw [if_neg (by omega)]
    split
    ·congr 1;omega
    ·rfl
   ·rw [if_neg (c:=s+(a7+m - s - m)≤k∧k<a7+m - s) (by omega)]
    split
    ·congr 1;omega
    ·rfl
 have q2:cT.length=L:=fK.len.trans dy
 obtain ⟨t1,t2,t3,t4,t5⟩:=an8 kR R aa xI aS eD e6 iQ hJ a1 dk fZ n6
 have done:∀cn fC:List aj,c1 cT cn a a7→di bJ cn a a7→c1 cn fC a7 b→di bJ fC a7 b→c1 l fC a b∧di bJ fC a b:=fun cn fC cr cX eX kM =>
  ⟨fK.trans ((cr.mono (Nat.le_refl _) (by omega)).trans (eX.mono (by omega) (Nat.le_refl _))),an9 cr eX cX kM t5⟩
 clear n6 dk fZ aS eD t5
 rcases (show (s<m∧m<a7+m - s)∨s=m∨(s<m∧a7+m - s=m) by omega) with b3 | b3 | b3
 ·rw [if_pos b3] at u4;subst u4
  obtain ⟨b3,aok⟩:=b3
  by_cases c2:a<s
  ·(repeat' (first | (simp (disch:=first | assumption | omega) only [go_sem,gL,gJ,gK,gw,gg,gh,he,Int.reduceLE,Int.reduceLT,Int.reduceToNat,Int.reduceAdd,Int.reduceSub,↓reduceIte,Nat.reduceBEq,Nat.reduceAdd,Nat.reduceSub,Nat.reduceMul,Nat.reduceLT,Nat.reduceEqDiff,reduceCtorEq,Nat.reduceLeDiff]) | (refine cm ?_ ?_<;>intro) | (refine mO (TZ bG dy s m (a7+m - s) (by omega) (by omega) (by omega) c7) ?_) | (refine nN (ih _ a s a7 (by omega) (by omega) (by omega) (by omega) q2 t1 t2) (nM kR _ (by omega)) ?_)))
   rintro cn ⟨cr,cX⟩
   have lO:cn.length=L:=cr.len.trans q2
   have hn:=t3.out cr (.inr (Nat.le_refl _))
   have v4:=t4.out cr (.inr (by omega))
   by_cases eY:a7+m - s<b
   ·(repeat' (first | (simp (disch:=first | assumption | omega) only [go_sem,gL,gJ,gK,gw,gg,gh,he,Int.reduceLE,Int.reduceLT,Int.reduceToNat,Int.reduceAdd,Int.reduceSub,↓reduceIte,Nat.reduceBEq,Nat.reduceAdd,Nat.reduceSub,Nat.reduceMul,Nat.reduceLT,Nat.reduceEqDiff,reduceCtorEq,Nat.reduceLeDiff]) | (refine cm ?_ ?_<;>intro) | (refine nN (ih cn a7 (a7+m - s) b (by omega) (by omega) (by omega) (by omega) lO hn v4) (nM kR _ (by omega)) ?_)))
    rintro fC ⟨eX,kM⟩
    (repeat' (first | (simp (disch:=first | assumption | omega) only [go_sem,gL,gJ,gK,gw,gg,gh,Int.reduceLE,Int.reduceLT,Int.reduceToNat,Int.reduceAdd,Int.reduceSub,↓reduceIte,Nat.reduceBEq,Nat.reduceAdd,Nat.reduceSub,Nat.reduceMul,Nat.reduceLT,Nat.reduceEqDiff,reduceCtorEq,Nat.reduceLeDiff]) | (refine cm ?_ ?_<;>intro)))
    exact ⟨_,rfl,rfl,fC,rfl,done cn fC cr cX eX kM⟩
   ·(repeat' (first | (simp (disch:=first | assumption | omega) only [go_sem,gL,gJ,gK,gw,gg,gh,he,Int.reduceLE,Int.reduceLT,Int.reduceToNat,Int.reduceAdd,Int.reduceSub,↓reduceIte,Nat.reduceBEq,Nat.reduceAdd,Nat.reduceSub,Nat.reduceMul,Nat.reduceLT,Nat.reduceEqDiff,reduceCtorEq,Nat.reduceLeDiff]) | (refine cm ?_ ?_<;>intro)))
    exact ⟨_,rfl,rfl,cn,rfl,done cn cn cr cX (c1.refl _ _ _) ((show a7+m - s=b by omega)▸hn)⟩
  ·obtain ⟨cn,g5⟩:∃cn,cn=oF l s m (a7+m - s):=⟨_,rfl⟩
   have cr:c1 (oF l s m (a7+m - s)) cn a a7:=by rw [g5];exact c1.refl _ _ _
   have cX:di bJ cn a a7:=by rw [g5];exact (show s=a by omega)▸t2
   have rc:=TZ bG dy s m (a7+m - s) b3 aok (by omega) c7
   rw [←g5] at rc
   have lO:cn.length=L:=cr.len.trans q2
   have hn:=t3.out cr (.inr (Nat.le_refl _))
   have v4:=t4.out cr (.inr (by omega))
   by_cases eY:a7+m - s<b
   ·(repeat' (first | (simp (disch:=first | assumption | omega) only [go_sem,gL,gJ,gK,gw,gg,gh,he,Int.reduceLE,Int.reduceLT,Int.reduceToNat,Int.reduceAdd,Int.reduceSub,↓reduceIte,Nat.reduceBEq,Nat.reduceAdd,Nat.reduceSub,Nat.reduceMul,Nat.reduceLT,Nat.reduceEqDiff,reduceCtorEq,Nat.reduceLeDiff]) | (refine cm ?_ ?_<;>intro) | (refine mO rc ?_) | (refine nN (ih cn a7 (a7+m - s) b (by omega) (by omega) (by omega) (by omega) lO hn v4) (nM kR _ (by omega)) ?_)))
    rintro fC ⟨eX,kM⟩
    (repeat' (first | (simp (disch:=first | assumption | omega) only [go_sem,gL,gJ,gK,gw,gg,gh,Int.reduceLE,Int.reduceLT,Int.reduceToNat,Int.reduceAdd,Int.reduceSub,↓reduceIte,Nat.reduceBEq,Nat.reduceAdd,Nat.reduceSub,Nat.reduceMul,Nat.reduceLT,Nat.reduceEqDiff,reduceCtorEq,Nat.reduceLeDiff]) | (refine cm ?_ ?_<;>intro)))
    exact ⟨_,rfl,rfl,fC,rfl,done cn fC cr cX eX kM⟩
   ·(repeat' (first | (simp (disch:=first | assumption | omega) only [go_sem,gL,gJ,gK,gw,gg,gh,he,Int.reduceLE,Int.reduceLT,Int.reduceToNat,Int.reduceAdd,Int.reduceSub,↓reduceIte,Nat.reduceBEq,Nat.reduceAdd,Nat.reduceSub,Nat.reduceMul,Nat.reduceLT,Nat.reduceEqDiff,reduceCtorEq,Nat.reduceLeDiff]) | (refine cm ?_ ?_<;>intro) | (refine mO rc ?_)))
    exact ⟨_,rfl,rfl,cn,rfl,done cn cn cr cX (c1.refl _ _ _) ((show a7+m - s=b by omega)▸hn)⟩
 ·rw [if_neg (by omega)] at u4;subst u4
  by_cases c2:s<a7
  ·(repeat' (first | (simp (disch:=first | assumption | omega) only [go_sem,gL,gJ,gK,gw,gg,gh,he,Int.reduceLE,Int.reduceLT,Int.reduceToNat,Int.reduceAdd,Int.reduceSub,↓reduceIte,Nat.reduceBEq,Nat.reduceAdd,Nat.reduceSub,Nat.reduceMul,Nat.reduceLT,Nat.reduceEqDiff,reduceCtorEq,Nat.reduceLeDiff]) | (refine cm ?_ ?_<;>intro) | (refine nN (ih _ a s a7 (by omega) (by omega) (by omega) (by omega) q2 t1 t2) (nM kR _ (by omega)) ?_)))
   rintro cn ⟨cr,cX⟩
   have lO:cn.length=L:=cr.len.trans q2
   have hn:=t3.out cr (.inr (Nat.le_refl _))
   have v4:=t4.out cr (.inr (by omega))
   (repeat' (first | (simp (disch:=first | assumption | omega) only [go_sem,gL,gJ,gK,gw,gg,gh,he,Int.reduceLE,Int.reduceLT,Int.reduceToNat,Int.reduceAdd,Int.reduceSub,↓reduceIte,Nat.reduceBEq,Nat.reduceAdd,Nat.reduceSub,Nat.reduceMul,Nat.reduceLT,Nat.reduceEqDiff,reduceCtorEq,Nat.reduceLeDiff]) | (refine cm ?_ ?_<;>intro)))
   exact ⟨_,rfl,rfl,cn,rfl,done cn cn cr cX (c1.refl _ _ _) ((show a7+m - s=a7 by omega)▸v4)⟩
  ·have cr:c1 cT cT a a7:=c1.refl _ _ _
   have cX:di bJ cT a a7:=(show s=a7 by omega)▸t1
   have v4:=t4.out cr (.inr (by omega))
   (repeat' (first | (simp (disch:=first | assumption | omega) only [go_sem,gL,gJ,gK,gw,gg,gh,he,Int.reduceLE,Int.reduceLT,Int.reduceToNat,Int.reduceAdd,Int.reduceSub,↓reduceIte,Nat.reduceBEq,Nat.reduceAdd,Nat.reduceSub,Nat.reduceMul,Nat.reduceLT,Nat.reduceEqDiff,reduceCtorEq,Nat.reduceLeDiff]) | (refine cm ?_ ?_<;>intro)))
   exact ⟨_,rfl,rfl,cT,rfl,done cT cT cr cX (c1.refl _ _ _) ((show a7+m - s=a7 by omega)▸v4)⟩
 ·rw [if_neg (by omega)] at u4;subst u4
  have cr:c1 cT cT a a7:=c1.refl _ _ _
  have cX:di bJ cT a a7:=(show s=a7 by omega)▸t1
  have aol:cT.length=L:=cr.len.trans q2
  have hn:=t3.out cr (.inr (Nat.le_refl _))
  have v4:=t4.out cr (.inr (by omega))
  (repeat' (first | (simp (disch:=first | assumption | omega) only [go_sem,gL,gJ,gK,gw,gg,gh,he,Int.reduceLE,Int.reduceLT,Int.reduceToNat,Int.reduceAdd,Int.reduceSub,↓reduceIte,Nat.reduceBEq,Nat.reduceAdd,Nat.reduceSub,Nat.reduceMul,Nat.reduceLT,Nat.reduceEqDiff,reduceCtorEq,Nat.reduceLeDiff]) | (refine cm ?_ ?_<;>intro) | (refine nN (ih cT a7 (a7+m - s) b (by omega) (by omega) (by omega) (by omega) aol hn v4) (nM kR _ (by omega)) ?_)))
  rintro fC ⟨eX,kM⟩
  (repeat' (first | (simp (disch:=first | assumption | omega) only [go_sem,gL,gJ,gK,gw,gg,gh,Int.reduceLE,Int.reduceLT,Int.reduceToNat,Int.reduceAdd,Int.reduceSub,↓reduceIte,Nat.reduceBEq,Nat.reduceAdd,Nat.reduceSub,Nat.reduceMul,Nat.reduceLT,Nat.reduceEqDiff,reduceCtorEq,Nat.reduceLeDiff]) | (refine cm ?_ ?_<;>intro)))
  exact ⟨_,rfl,rfl,fC,rfl,done cT fC cr cX eX kM⟩
end AM
