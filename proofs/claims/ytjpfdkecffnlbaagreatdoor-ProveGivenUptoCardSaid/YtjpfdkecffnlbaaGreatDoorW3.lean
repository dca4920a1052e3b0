/- Sorting rows of terms in place. Conditions: none. -/
import Derived.Test.YtjpfdkecffnlbaaGreatDoorW2
import Derived.Test.YtjpfdkecffnlbaaGreatDoorAm14
set_option maxRecDepth 100000
set_option maxHeartbeats 400000
set_option linter.unusedSimpArgs false
set_option linter.unusedVariables false
namespace AM
open Go Go.Proofs
open Enc (enc)
theorem Kn {H:List aM} {id:Nat} (bG:id<H.length) {L:Nat} {l:List aj} (dy:l.length=L) (a b n:Nat) (R:a+n≤b) (aa:b+n≤L) (c7:L≤M) :
  ec Tryz.prog bq 206 [.bI id 0 L 2,.int .i64 a,.int .i64 b,.int .i64 n,.fn 75 []] (eM 38 H id l)
   fun r H'=>r=.bw []∧H'=eM 38 H id (mP l a b n):=by
 have nO:M=1099511627776:=rfl
 refine ec.intro (D:=kh) alz ?_
 unfold Qz
 simp (disch:=first | assumption | omega) only [go_sem,Int.reduceLE,Int.reduceLT,Int.reduceToNat,Int.reduceAdd,Int.reduceSub,↓reduceIte,Nat.reduceBEq,Nat.reduceAdd,Nat.reduceSub,Nat.reduceMul,Nat.reduceLT,Nat.reduceEqDiff,reduceCtorEq,Nat.reduceLeDiff]
 refine e8 (fun i:Nat=>⟨N [(0,.v (.bI id 0 L 2)),(1,.v (enc a)),(2,.v (enc b)),(3,.v (enc n)),(10,.v (enc i))],eM 38 H id (mP l a b i)⟩) (fun i=>i≤n) (fun i=>n - i) 0 (Nat.zero_le _) (by (try simp (disch:=first | assumption | omega) only [go_sem,Int.reduceLE,Int.reduceLT,Int.reduceToNat,Int.reduceAdd,Int.reduceSub,↓reduceIte,Nat.reduceBEq,Nat.reduceAdd,Nat.reduceSub,Nat.reduceMul,Nat.reduceLT,Nat.reduceEqDiff,reduceCtorEq,Nat.reduceLeDiff])<;>(first | rfl | (simp (disch:=first | assumption | omega) only [b7,List.foldr_cons,List.foldr_nil,Env.ins,dB,dC,dD,dE,dF,dG,dH,dI,aj.cP,List.length_map,Int.natCast_add,Int.natCast_one,Int.natCast_zero,List.take_zero,dJ,List.map_append,List.map_cons,List.map_nil,dN,dO,Int.reduceLE,Int.reduceLT,Int.reduceToNat,Int.reduceAdd,Int.reduceSub,↓reduceIte,Nat.reduceBEq,Nat.reduceAdd,Nat.reduceSub,Nat.reduceMul,Nat.reduceLT,Nat.reduceEqDiff,reduceCtorEq,Nat.reduceLeDiff];try rfl))) ?_
 intro i av
 have aN:=sw l a b i
 (repeat' (first | (simp (disch:=first | assumption | omega) only [go_sem,QA,Int.reduceLE,Int.reduceLT,Int.reduceToNat,Int.reduceAdd,Int.reduceSub,↓reduceIte,Nat.reduceBEq,Nat.reduceAdd,Nat.reduceSub,Nat.reduceMul,Nat.reduceLT,Nat.reduceEqDiff,reduceCtorEq,Nat.reduceLeDiff]) | (refine cm ?_ ?_<;>intro)))
 ·exact ⟨i+1,by omega,by omega,by (first | rfl | (simp (disch:=first | assumption | omega) only [b7,List.foldr_cons,List.foldr_nil,Env.ins,dB,dC,dD,dE,dF,dG,dH,dI,aj.cP,List.length_map,Int.natCast_add,Int.natCast_one,Int.natCast_zero,List.take_zero,dJ,List.map_append,List.map_cons,List.map_nil,dN,dO,mP,iy,Int.reduceLE,Int.reduceLT,Int.reduceToNat,Int.reduceAdd,Int.reduceSub,↓reduceIte,Nat.reduceBEq,Nat.reduceAdd,Nat.reduceSub,Nat.reduceMul,Nat.reduceLT,Nat.reduceEqDiff,reduceCtorEq,Nat.reduceLeDiff];try rfl))⟩
 ·exact ⟨_,rfl,rfl,by rw [show i=n by omega]⟩
theorem TZ {H:List aM} {id:Nat} (bG:id<H.length) {L:Nat} {l:List aj} (dy:l.length=L) (a m b:Nat) (R:a<m) (aa:m<b) (al:b≤L) (c7:L≤M) :
  ec Tryz.prog bq 189 [.bI id 0 L 2,.int .i64 a,.int .i64 m,.int .i64 b,.fn 75 []] (eM 38 H id l)
   fun r H'=>r=.bw []∧H'=eM 38 H id (oF l a m b):=by
 have nO:M=1099511627776:=rfl
 refine ec.intro (D:=kh) aly ?_
 unfold Qx
 simp (disch:=first | assumption | omega) only [go_sem,Int.reduceLE,Int.reduceLT,Int.reduceToNat,Int.reduceAdd,Int.reduceSub,↓reduceIte,Nat.reduceBEq,Nat.reduceAdd,Nat.reduceSub,Nat.reduceMul,Nat.reduceLT,Nat.reduceEqDiff,reduceCtorEq,Nat.reduceLeDiff]
 have cf:(m:Int) - (a:Int)=((m - a:Nat):Int):=by omega
 have cY:(b:Int) - (m:Int)=((b - m:Nat):Int):=by omega
 refine e8 (fun p:Nat×Nat×List aj=>⟨N [(0,.v (.bI id 0 L 2)),(2,.v (enc m)),(4,.v (.fn 75 [])),(10,.v (enc p.1)),(11,.v (enc p.2.1))],eM 38 H id p.2.2⟩)
  (fun p=>1≤p.1∧1≤p.2.1∧p.1≤m - a∧m+p.2.1≤b∧p.2.2.length=L∧l4 l p.2.2 a m b p.1 p.2.1) (fun p=>p.1+p.2.1) (m - a,b - m,l)
  ⟨by simp only;omega,by simp only;omega,by simp only;omega,by simp only;omega,dy,l4.start (by omega) (by omega)⟩ (by (try simp (disch:=first | assumption | omega) only [go_sem,cf,cY,Int.reduceLE,Int.reduceLT,Int.reduceToNat,Int.reduceAdd,Int.reduceSub,↓reduceIte,Nat.reduceBEq,Nat.reduceAdd,Nat.reduceSub,Nat.reduceMul,Nat.reduceLT,Nat.reduceEqDiff,reduceCtorEq,Nat.reduceLeDiff])<;>(first | rfl | (simp (disch:=first | assumption | omega) only [b7,List.foldr_cons,List.foldr_nil,Env.ins,dB,dC,dD,dE,dF,dG,dH,dI,aj.cP,List.length_map,Int.natCast_add,Int.natCast_one,Int.natCast_zero,List.take_zero,dJ,List.map_append,List.map_cons,List.map_nil,dN,dO,Int.reduceLE,Int.reduceLT,Int.reduceToNat,Int.reduceAdd,Int.reduceSub,↓reduceIte,Nat.reduceBEq,Nat.reduceAdd,Nat.reduceSub,Nat.reduceMul,Nat.reduceLT,Nat.reduceEqDiff,reduceCtorEq,Nat.reduceLeDiff];try rfl))) ?_
 rintro ⟨i,j,cx⟩ ⟨i1,i2,i3,i4,i5,i6⟩
 simp only at i1 i2 i3 i4 i5 i6
 have eS:(m:Int) - (i:Int)=((m - i:Nat):Int):=by omega
 have fJ:(m:Int)+(j:Int) - (i:Int)=((m+j - i:Nat):Int):=by omega
 (repeat' (first | (simp (disch:=first | assumption | omega) only [go_sem,Qy,Qw,eS,fJ,Int.reduceLE,Int.reduceLT,Int.reduceToNat,Int.reduceAdd,Int.reduceSub,↓reduceIte,Nat.reduceBEq,Nat.reduceAdd,Nat.reduceSub,Nat.reduceMul,Nat.reduceLT,Nat.reduceEqDiff,reduceCtorEq,Nat.reduceLeDiff]) | (refine cm ?_ ?_<;>intro) | (refine mO (Kn bG i5 (m - i) m j (by omega) (by omega) c7) ?_) | (refine mO (Kn bG i5 (m - i) (m+j - i) i (by omega) (by omega) c7) ?_) | (refine mO (Kn bG i5 (m - i) m i (by omega) (by omega) c7) ?_)))
 ·have iM:(i:Int) - (j:Int)=((i - j:Nat):Int):=by omega
  exact ⟨(i - j,j,_),⟨by simp only;omega,i2,by simp only;omega,i4,by simp only [sw];exact i5,i6.left (by omega) (by omega) (by omega)⟩,by simp only;omega,by (first | rfl | (simp (disch:=first | assumption | omega) only [b7,List.foldr_cons,List.foldr_nil,Env.ins,dB,dC,dD,dE,dF,dG,dH,dI,aj.cP,List.length_map,Int.natCast_add,Int.natCast_one,Int.natCast_zero,List.take_zero,dJ,List.map_append,List.map_cons,List.map_nil,dN,dO,iM,Int.reduceLE,Int.reduceLT,Int.reduceToNat,Int.reduceAdd,Int.reduceSub,↓reduceIte,Nat.reduceBEq,Nat.reduceAdd,Nat.reduceSub,Nat.reduceMul,Nat.reduceLT,Nat.reduceEqDiff,reduceCtorEq,Nat.reduceLeDiff];try rfl))⟩
 ·have iM:(j:Int) - (i:Int)=((j - i:Nat):Int):=by omega
  exact ⟨(i,j - i,_),⟨i1,by simp only;omega,i3,by simp only;omega,by simp only [sw];exact i5,i6.right (by omega) (by omega) (by omega)⟩,by simp only;omega,by (first | rfl | (simp (disch:=first | assumption | omega) only [b7,List.foldr_cons,List.foldr_nil,Env.ins,dB,dC,dD,dE,dF,dG,dH,dI,aj.cP,List.length_map,Int.natCast_add,Int.natCast_one,Int.natCast_zero,List.take_zero,dJ,List.map_append,List.map_cons,List.map_nil,dN,dO,iM,Int.reduceLE,Int.reduceLT,Int.reduceToNat,Int.reduceAdd,Int.reduceSub,↓reduceIte,Nat.reduceBEq,Nat.reduceAdd,Nat.reduceSub,Nat.reduceMul,Nat.reduceLT,Nat.reduceEqDiff,reduceCtorEq,Nat.reduceLeDiff];try rfl))⟩
 ·obtain rfl:i=j:=by omega
  exact ⟨_,rfl,rfl,by rw [aoj i6 (by omega) (by omega) (by omega) (by omega) (by omega) (by omega)]⟩
theorem T0 {H:List aM} {id:Nat} (bG:id<H.length) {L:Nat} {l:List aj} (dy:l.length=L) (a b:Nat) (R:a≤b) (aa:b≤L) (c7:L≤M) :
  ec Tryz.prog bq 159 [.bI id 0 L 2,.int .i64 a,.int .i64 b,.fn 75 []] (eM 38 H id l)
   fun r H'=>r=.bw []∧∃cx,H'=eM 38 H id cx∧c1 l cx a b∧di bJ cx a b:=by
 have nO:M=1099511627776:=rfl
 refine ec.intro (D:=kh) At ?_
 unfold xj
 simp (disch:=first | assumption | omega) only [go_sem,Int.reduceLE,Int.reduceLT,Int.reduceToNat,Int.reduceAdd,Int.reduceSub,↓reduceIte,Nat.reduceBEq,Nat.reduceAdd,Nat.reduceSub,Nat.reduceMul,Nat.reduceLT,Nat.reduceEqDiff,reduceCtorEq,Nat.reduceLeDiff]
 refine e8 (fun p:Nat×List aj=>⟨N [(0,.v (.bI id 0 L 2)),(1,.v (enc a)),(2,.v (enc b)),(3,.v (.fn 75 [])),(8,.v (enc p.1))],eM 38 H id p.2⟩)
  (fun p=>a+1≤p.1∧(p.1≤b∨p.1=a+1)∧c1 l p.2 a b∧di bJ p.2 a p.1) (fun p=>b - p.1) (a+1,l) ⟨Nat.le_refl _,.inr rfl,c1.refl _ _ _,fun p q _ _ _=>by simp only at *;omega⟩ (by (try simp (disch:=first | assumption | omega) only [go_sem,Int.reduceLE,Int.reduceLT,Int.reduceToNat,Int.reduceAdd,Int.reduceSub,↓reduceIte,Nat.reduceBEq,Nat.reduceAdd,Nat.reduceSub,Nat.reduceMul,Nat.reduceLT,Nat.reduceEqDiff,reduceCtorEq,Nat.reduceLeDiff])<;>(first | rfl | (simp (disch:=first | assumption | omega) only [b7,List.foldr_cons,List.foldr_nil,Env.ins,dB,dC,dD,dE,dF,dG,dH,dI,aj.cP,List.length_map,Int.natCast_add,Int.natCast_one,Int.natCast_zero,List.take_zero,dJ,List.map_append,List.map_cons,List.map_nil,dN,dO,Int.reduceLE,Int.reduceLT,Int.reduceToNat,Int.reduceAdd,Int.reduceSub,↓reduceIte,Nat.reduceBEq,Nat.reduceAdd,Nat.reduceSub,Nat.reduceMul,Nat.reduceLT,Nat.reduceEqDiff,reduceCtorEq,Nat.reduceLeDiff];try rfl))) ?_
 rintro ⟨i,cT⟩ ⟨i1,i2,i3,i4⟩
 simp only at i1 i2 i3 i4
 have n6:cT.length=L:=i3.len.trans dy
 by_cases ah:i<b
 ·(repeat' (first | (simp (disch:=first | assumption | omega) only [go_sem,pN,sn,Int.reduceLE,Int.reduceLT,Int.reduceToNat,Int.reduceAdd,Int.reduceSub,↓reduceIte,Nat.reduceBEq,Nat.reduceAdd,Nat.reduceSub,Nat.reduceMul,Nat.reduceLT,Nat.reduceEqDiff,reduceCtorEq,Nat.reduceLeDiff]) | (refine cm ?_ ?_<;>intro)))
  refine e8 (fun p:Nat×List aj=>⟨N [(0,.v (.bI id 0 L 2)),(1,.v (enc a)),(2,.v (enc b)),(3,.v (.fn 75 [])),(8,.v (enc i)),(9,.v (enc p.1))],eM 38 H id p.2⟩)
   (fun p=>a≤p.1∧p.1≤i∧c1 l p.2 a b∧l3 bJ p.2 a i p.1) (fun p=>p.1) (i,cT) ⟨by simp only;omega,Nat.le_refl _,i3,l3.start i4⟩ (by (try simp (disch:=first | assumption | omega) only [go_sem,Int.reduceLE,Int.reduceLT,Int.reduceToNat,Int.reduceAdd,Int.reduceSub,↓reduceIte,Nat.reduceBEq,Nat.reduceAdd,Nat.reduceSub,Nat.reduceMul,Nat.reduceLT,Nat.reduceEqDiff,reduceCtorEq,Nat.reduceLeDiff])<;>(first | rfl | (simp (disch:=first | assumption | omega) only [b7,List.foldr_cons,List.foldr_nil,Env.ins,dB,dC,dD,dE,dF,dG,dH,dI,aj.cP,List.length_map,Int.natCast_add,Int.natCast_one,Int.natCast_zero,List.take_zero,dJ,List.map_append,List.map_cons,List.map_nil,dN,dO,Int.reduceLE,Int.reduceLT,Int.reduceToNat,Int.reduceAdd,Int.reduceSub,↓reduceIte,Nat.reduceBEq,Nat.reduceAdd,Nat.reduceSub,Nat.reduceMul,Nat.reduceLT,Nat.reduceEqDiff,reduceCtorEq,Nat.reduceLeDiff];try rfl))) ?_
  rintro ⟨j,cn⟩ ⟨e6,iQ,hJ,gX⟩
  simp only at e6 iQ hJ gX
  have g5:cn.length=L:=hJ.len.trans dy
  by_cases aZ:a<j
  ·by_cases af:bJ cn[j]! cn[j - 1]! < 0
   ·(repeat' (first | (simp (disch:=first | assumption | omega) only [go_sem,pN,sn,Int.reduceLE,Int.reduceLT,Int.reduceToNat,Int.reduceAdd,Int.reduceSub,↓reduceIte,Nat.reduceBEq,Nat.reduceAdd,Nat.reduceSub,Nat.reduceMul,Nat.reduceLT,Nat.reduceEqDiff,reduceCtorEq,Nat.reduceLeDiff]) | (refine cm ?_ ?_<;>intro) | (refine oC ?_)))
    have cf:(j:Int) - 1=((j - 1:Nat):Int):=by omega
    exact ⟨(j - 1,iy cn j (j - 1)),⟨by simp only;omega,by simp only;omega,hJ.trans (c1.iy (by omega) (by omega) (by omega) (by omega) (by omega)),gX.step aZ iQ (by omega) (by omega)⟩,by simp only;omega,by (first | rfl | (simp (disch:=first | assumption | omega) only [b7,List.foldr_cons,List.foldr_nil,Env.ins,dB,dC,dD,dE,dF,dG,dH,dI,aj.cP,List.length_map,Int.natCast_add,Int.natCast_one,Int.natCast_zero,List.take_zero,dJ,List.map_append,List.map_cons,List.map_nil,dN,dO,cf,iy,Int.reduceLE,Int.reduceLT,Int.reduceToNat,Int.reduceAdd,Int.reduceSub,↓reduceIte,Nat.reduceBEq,Nat.reduceAdd,Nat.reduceSub,Nat.reduceMul,Nat.reduceLT,Nat.reduceEqDiff,reduceCtorEq,Nat.reduceLeDiff];try rfl))⟩
   ·(repeat' (first | (simp (disch:=first | assumption | omega) only [go_sem,pN,sn,Int.reduceLE,Int.reduceLT,Int.reduceToNat,Int.reduceAdd,Int.reduceSub,↓reduceIte,Nat.reduceBEq,Nat.reduceAdd,Nat.reduceSub,Nat.reduceMul,Nat.reduceLT,Nat.reduceEqDiff,reduceCtorEq,Nat.reduceLeDiff]) | (refine cm ?_ ?_<;>intro) | (refine oC ?_)))
    exact ⟨(i+1,cn),⟨by simp only;omega,.inl (by simp only;omega),hJ,gX.TM kR aZ af⟩,by simp only;omega,by (first | rfl | (simp (disch:=first | assumption | omega) only [b7,List.foldr_cons,List.foldr_nil,Env.ins,dB,dC,dD,dE,dF,dG,dH,dI,aj.cP,List.length_map,Int.natCast_add,Int.natCast_one,Int.natCast_zero,List.take_zero,dJ,List.map_append,List.map_cons,List.map_nil,dN,dO,Int.reduceLE,Int.reduceLT,Int.reduceToNat,Int.reduceAdd,Int.reduceSub,↓reduceIte,Nat.reduceBEq,Nat.reduceAdd,Nat.reduceSub,Nat.reduceMul,Nat.reduceLT,Nat.reduceEqDiff,reduceCtorEq,Nat.reduceLeDiff];try rfl))⟩
  ·(repeat' (first | (simp (disch:=first | assumption | omega) only [go_sem,pN,sn,Int.reduceLE,Int.reduceLT,Int.reduceToNat,Int.reduceAdd,Int.reduceSub,↓reduceIte,Nat.reduceBEq,Nat.reduceAdd,Nat.reduceSub,Nat.reduceMul,Nat.reduceLT,Nat.reduceEqDiff,reduceCtorEq,Nat.reduceLeDiff]) | (refine cm ?_ ?_<;>intro)))
   obtain rfl:j=a:=by omega
   exact ⟨(i+1,cn),⟨by simp only;omega,.inl (by simp only;omega),hJ,gX.TL⟩,by simp only;omega,by (first | rfl | (simp (disch:=first | assumption | omega) only [b7,List.foldr_cons,List.foldr_nil,Env.ins,dB,dC,dD,dE,dF,dG,dH,dI,aj.cP,List.length_map,Int.natCast_add,Int.natCast_one,Int.natCast_zero,List.take_zero,dJ,List.map_append,List.map_cons,List.map_nil,dN,dO,Int.reduceLE,Int.reduceLT,Int.reduceToNat,Int.reduceAdd,Int.reduceSub,↓reduceIte,Nat.reduceBEq,Nat.reduceAdd,Nat.reduceSub,Nat.reduceMul,Nat.reduceLT,Nat.reduceEqDiff,reduceCtorEq,Nat.reduceLeDiff];try rfl))⟩
 ·(repeat' (first | (simp (disch:=first | assumption | omega) only [go_sem,pN,sn,Int.reduceLE,Int.reduceLT,Int.reduceToNat,Int.reduceAdd,Int.reduceSub,↓reduceIte,Nat.reduceBEq,Nat.reduceAdd,Nat.reduceSub,Nat.reduceMul,Nat.reduceLT,Nat.reduceEqDiff,reduceCtorEq,Nat.reduceLeDiff]) | (refine cm ?_ ?_<;>intro)))
  exact ⟨_,rfl,rfl,cT,rfl,i3,i4.sub (Nat.le_refl _) (by omega)⟩
end AM
