/- Sorting rows of terms in place by merging. Conditions: none. -/
import Derived.Test.YtjpfdkecffnlbaaGreatDoorW4
set_option maxRecDepth 100000
set_option maxHeartbeats 4000000
set_option linter.unusedSimpArgs false
set_option linter.unusedVariables false
namespace AM
open Go Go.Proofs
open Enc (enc)
theorem T3 {H:List aM} {id:Nat} (bG:id<H.length) {L:Nat} (c7:L≤M):∀n,T1 H id L n:=by
 intro n
 induction n with
 | zero=>intro l a m b h;omega
 | succ n ih =>
 intro l a m b a0 R aa al dy aS eD
 have nO:M=1099511627776:=rfl
 refine ec.intro (D:=kh) als ?_
 unfold Qp
 by_cases il:m=a+1
 ·have Ko:(m:Int) - (a:Int)=1:=by omega
  (repeat' (first | (simp (disch:=first | assumption | omega) only [go_sem,gL,gJ,gK,gw,gg,gh,Ko,Int.reduceLE,Int.reduceLT,Int.reduceToNat,Int.reduceAdd,Int.reduceSub,↓reduceIte,Nat.reduceBEq,Nat.reduceAdd,Nat.reduceSub,Nat.reduceMul,Nat.reduceLT,Nat.reduceEqDiff,reduceCtorEq,Nat.reduceLeDiff]) | (refine cm ?_ ?_<;>intro)))
  refine e8 (fun p:Nat×Nat=>⟨N [(0,.v (.bI id 0 L 2)),(1,.v (enc a)),(4,.v (.fn 75 [])),(10,.v (enc p.1)),(11,.v (enc p.2))],eM 38 H id l⟩)
   (fun p=>m≤p.1∧p.1≤p.2∧p.2≤b∧(p.1=m∨bJ l[p.1 - 1]! l[a]! < 0)∧(p.2=b∨¬bJ l[p.2]! l[a]! < 0)) (fun p=>p.2 - p.1) (m,b)
   ⟨Nat.le_refl _,by simp only;omega,Nat.le_refl _,.inl rfl,.inl rfl⟩ (by (try simp (disch:=first | assumption | omega) only [go_sem,Int.reduceLE,Int.reduceLT,Int.reduceToNat,Int.reduceAdd,Int.reduceSub,↓reduceIte,Nat.reduceBEq,Nat.reduceAdd,Nat.reduceSub,Nat.reduceMul,Nat.reduceLT,Nat.reduceEqDiff,reduceCtorEq,Nat.reduceLeDiff])<;>(first | rfl | (simp (disch:=first | assumption | omega) only [b7,List.foldr_cons,List.foldr_nil,Env.ins,dB,dC,dD,dE,dF,dG,dH,dI,aj.cP,List.length_map,Int.natCast_add,Int.natCast_one,Int.natCast_zero,List.take_zero,dJ,List.map_append,List.map_cons,List.map_nil,dN,dO,Int.reduceLE,Int.reduceLT,Int.reduceToNat,Int.reduceAdd,Int.reduceSub,↓reduceIte,Nat.reduceBEq,Nat.reduceAdd,Nat.reduceSub,Nat.reduceMul,Nat.reduceLT,Nat.reduceEqDiff,reduceCtorEq,Nat.reduceLeDiff];try rfl))) ?_
  rintro ⟨i,j⟩ ⟨e6,iQ,hJ,gX,iz⟩
  simp only at e6 iQ hJ gX iz
  by_cases gn:i<j
  ·by_cases af:bJ l[(i+j) / 2]! l[a]! < 0
   ·(repeat' (first | (simp (disch:=first | assumption | omega) only [go_sem,gL,gJ,gK,gw,gg,gh,Int.reduceLE,Int.reduceLT,Int.reduceToNat,Int.reduceAdd,Int.reduceSub,↓reduceIte,Nat.reduceBEq,Nat.reduceAdd,Nat.reduceSub,Nat.reduceMul,Nat.reduceLT,Nat.reduceEqDiff,reduceCtorEq,Nat.reduceLeDiff]) | (refine cm ?_ ?_<;>intro) | (refine oC ?_)))
    exact ⟨((i+j) / 2+1,j),⟨by simp only;omega,by simp only;omega,hJ,.inr af,iz⟩,by simp only;omega,by (first | rfl | (simp (disch:=first | assumption | omega) only [b7,List.foldr_cons,List.foldr_nil,Env.ins,dB,dC,dD,dE,dF,dG,dH,dI,aj.cP,List.length_map,Int.natCast_add,Int.natCast_one,Int.natCast_zero,List.take_zero,dJ,List.map_append,List.map_cons,List.map_nil,dN,dO,Int.reduceLE,Int.reduceLT,Int.reduceToNat,Int.reduceAdd,Int.reduceSub,↓reduceIte,Nat.reduceBEq,Nat.reduceAdd,Nat.reduceSub,Nat.reduceMul,Nat.reduceLT,Nat.reduceEqDiff,reduceCtorEq,Nat.reduceLeDiff];try rfl))⟩
   ·(repeat' (first | (simp (disch:=first | assumption | omega) only [go_sem,gL,gJ,gK,gw,gg,gh,Int.reduceLE,Int.reduceLT,Int.reduceToNat,Int.reduceAdd,Int.reduceSub,↓reduceIte,Nat.reduceBEq,Nat.reduceAdd,Nat.reduceSub,Nat.reduceMul,Nat.reduceLT,Nat.reduceEqDiff,reduceCtorEq,Nat.reduceLeDiff]) | (refine cm ?_ ?_<;>intro) | (refine oC ?_)))
    exact ⟨(i,(i+j) / 2),⟨e6,by simp only;omega,by simp only;omega,gX,.inr af⟩,by simp only;omega,by (first | rfl | (simp (disch:=first | assumption | omega) only [b7,List.foldr_cons,List.foldr_nil,Env.ins,dB,dC,dD,dE,dF,dG,dH,dI,aj.cP,List.length_map,Int.natCast_add,Int.natCast_one,Int.natCast_zero,List.take_zero,dJ,List.map_append,List.map_cons,List.map_nil,dN,dO,Int.reduceLE,Int.reduceLT,Int.reduceToNat,Int.reduceAdd,Int.reduceSub,↓reduceIte,Nat.reduceBEq,Nat.reduceAdd,Nat.reduceSub,Nat.reduceMul,Nat.reduceLT,Nat.reduceEqDiff,reduceCtorEq,Nat.reduceLeDiff];try rfl))⟩
  ·obtain rfl:i=j:=by omega
   (repeat' (first | (simp (disch:=first | assumption | omega) only [go_sem,gL,gJ,gK,gw,gg,gh,Int.reduceLE,Int.reduceLT,Int.reduceToNat,Int.reduceAdd,Int.reduceSub,↓reduceIte,Nat.reduceBEq,Nat.reduceAdd,Nat.reduceSub,Nat.reduceMul,Nat.reduceLT,Nat.reduceEqDiff,reduceCtorEq,Nat.reduceLeDiff]) | (refine cm ?_ ?_<;>intro)))
   refine e8 (fun k:Nat=>⟨N [(0,.v (.bI id 0 L 2)),(10,.v (enc i)),(13,.v (enc (a+k)))],eM 38 H id (oD l a k)⟩)
    (fun k=>k≤i - 1 - a) (fun k=>i - 1 - a - k) 0 (Nat.zero_le _) (by (try simp (disch:=first | assumption | omega) only [go_sem,Int.reduceLE,Int.reduceLT,Int.reduceToNat,Int.reduceAdd,Int.reduceSub,↓reduceIte,Nat.reduceBEq,Nat.reduceAdd,Nat.reduceSub,Nat.reduceMul,Nat.reduceLT,Nat.reduceEqDiff,reduceCtorEq,Nat.reduceLeDiff])<;>(first | rfl | (simp (disch:=first | assumption | omega) only [b7,List.foldr_cons,List.foldr_nil,Env.ins,dB,dC,dD,dE,dF,dG,dH,dI,aj.cP,List.length_map,Int.natCast_add,Int.natCast_one,Int.natCast_zero,List.take_zero,dJ,List.map_append,List.map_cons,List.map_nil,dN,dO,oD,Nat.add_zero,Int.reduceLE,Int.reduceLT,Int.reduceToNat,Int.reduceAdd,Int.reduceSub,↓reduceIte,Nat.reduceBEq,Nat.reduceAdd,Nat.reduceSub,Nat.reduceMul,Nat.reduceLT,Nat.reduceEqDiff,reduceCtorEq,Nat.reduceLeDiff];try rfl))) ?_
   intro k ab
   have aom:=xG l a k
   have cf:(((a:Int)+(k:Int))+1).toNat=a+k+1:=by omega
   (repeat' (first | (simp (disch:=first | assumption | omega) only [go_sem,gL,gJ,gK,gw,gg,gh,cf,Int.reduceLE,Int.reduceLT,Int.reduceToNat,Int.reduceAdd,Int.reduceSub,↓reduceIte,Nat.reduceBEq,Nat.reduceAdd,Nat.reduceSub,Nat.reduceMul,Nat.reduceLT,Nat.reduceEqDiff,reduceCtorEq,Nat.reduceLeDiff]) | (refine cm ?_ ?_<;>intro)))
   ·exact ⟨k+1,by omega,by omega,by (first | rfl | (simp (disch:=first | assumption | omega) only [b7,List.foldr_cons,List.foldr_nil,Env.ins,dB,dC,dD,dE,dF,dG,dH,dI,aj.cP,List.length_map,Int.natCast_add,Int.natCast_one,Int.natCast_zero,List.take_zero,dJ,List.map_append,List.map_cons,List.map_nil,dN,dO,oD,iy,←Int.add_assoc,Int.reduceLE,Int.reduceLT,Int.reduceToNat,Int.reduceAdd,Int.reduceSub,↓reduceIte,Nat.reduceBEq,Nat.reduceAdd,Nat.reduceSub,Nat.reduceMul,Nat.reduceLT,Nat.reduceEqDiff,reduceCtorEq,Nat.reduceLeDiff];try rfl))⟩
   ·obtain rfl:k=i - 1 - a:=by omega
    exact ⟨_,rfl,rfl,_,rfl,TP _ (by omega) (by omega),aob kR (by omega) hJ (by omega) (il▸eD) (by rw [←il];exact gX) iz (by omega)⟩
 by_cases hN:b=m+1
 ·have Ko:(m:Int) - (a:Int)≠1:=by omega
  have T4:(b:Int) - (m:Int)=1:=by omega
  (repeat' (first | (simp (disch:=first | assumption | omega) only [go_sem,gL,gJ,gK,gw,gg,gh,T4,Int.reduceLE,Int.reduceLT,Int.reduceToNat,Int.reduceAdd,Int.reduceSub,↓reduceIte,Nat.reduceBEq,Nat.reduceAdd,Nat.reduceSub,Nat.reduceMul,Nat.reduceLT,Nat.reduceEqDiff,reduceCtorEq,Nat.reduceLeDiff]) | (refine cm ?_ ?_<;>intro)))
  refine e8 (fun p:Nat×Nat=>⟨N [(0,.v (.bI id 0 L 2)),(2,.v (enc m)),(4,.v (.fn 75 [])),(14,.v (enc p.1)),(15,.v (enc p.2))],eM 38 H id l⟩)
   (fun p=>a≤p.1∧p.1≤p.2∧p.2≤m∧(p.1=a∨¬bJ l[m]! l[p.1 - 1]! < 0)∧(p.2=m∨bJ l[m]! l[p.2]! < 0)) (fun p=>p.2 - p.1) (a,m)
   ⟨Nat.le_refl _,by simp only;omega,Nat.le_refl _,.inl rfl,.inl rfl⟩ (by (try simp (disch:=first | assumption | omega) only [go_sem,Int.reduceLE,Int.reduceLT,Int.reduceToNat,Int.reduceAdd,Int.reduceSub,↓reduceIte,Nat.reduceBEq,Nat.reduceAdd,Nat.reduceSub,Nat.reduceMul,Nat.reduceLT,Nat.reduceEqDiff,reduceCtorEq,Nat.reduceLeDiff])<;>(first | rfl | (simp (disch:=first | assumption | omega) only [b7,List.foldr_cons,List.foldr_nil,Env.ins,dB,dC,dD,dE,dF,dG,dH,dI,aj.cP,List.length_map,Int.natCast_add,Int.natCast_one,Int.natCast_zero,List.take_zero,dJ,List.map_append,List.map_cons,List.map_nil,dN,dO,Int.reduceLE,Int.reduceLT,Int.reduceToNat,Int.reduceAdd,Int.reduceSub,↓reduceIte,Nat.reduceBEq,Nat.reduceAdd,Nat.reduceSub,Nat.reduceMul,Nat.reduceLT,Nat.reduceEqDiff,reduceCtorEq,Nat.reduceLeDiff];try rfl))) ?_
  rintro ⟨i,j⟩ ⟨e6,iQ,hJ,gX,iz⟩
  simp only at e6 iQ hJ gX iz
  by_cases gn:i<j
  ·by_cases af:bJ l[m]! l[(i+j) / 2]! < 0
   ·(repeat' (first | (simp (disch:=first | assumption | omega) only [go_sem,gL,gJ,gK,gw,gg,gh,Int.reduceLE,Int.reduceLT,Int.reduceToNat,Int.reduceAdd,Int.reduceSub,↓reduceIte,Nat.reduceBEq,Nat.reduceAdd,Nat.reduceSub,Nat.reduceMul,Nat.reduceLT,Nat.reduceEqDiff,reduceCtorEq,Nat.reduceLeDiff]) | (refine cm ?_ ?_<;>intro) | (refine oC ?_)))
    exact ⟨(i,(i+j) / 2),⟨e6,by simp only;omega,by simp only;omega,gX,.inr af⟩,by simp only;omega,by (first | rfl | (simp (disch:=first | assumption | omega) only [b7,List.foldr_cons,List.foldr_nil,Env.ins,dB,dC,dD,dE,dF,dG,dH,dI,aj.cP,List.length_map,Int.natCast_add,Int.natCast_one,Int.natCast_zero,List.take_zero,dJ,List.map_append,List.map_cons,List.map_nil,dN,dO,Int.reduceLE,Int.reduceLT,Int.reduceToNat,Int.reduceAdd,Int.reduceSub,↓reduceIte,Nat.reduceBEq,Nat.reduceAdd,Nat.reduceSub,Nat.reduceMul,Nat.reduceLT,Nat.reduceEqDiff,reduceCtorEq,Nat.reduceLeDiff];try rfl))⟩
   ·(repeat' (first | (simp (disch:=first | assumption | omega) only [go_sem,gL,gJ,gK,gw,gg,gh,Int.reduceLE,Int.reduceLT,Int.reduceToNat,Int.reduceAdd,Int.reduceSub,↓reduceIte,Nat.reduceBEq,Nat.reduceAdd,Nat.reduceSub,Nat.reduceMul,Nat.reduceLT,Nat.reduceEqDiff,reduceCtorEq,Nat.reduceLeDiff]) | (refine cm ?_ ?_<;>intro) | (refine oC ?_)))
    exact ⟨((i+j) / 2+1,j),⟨by simp only;omega,by simp only;omega,hJ,.inr af,iz⟩,by simp only;omega,by (first | rfl | (simp (disch:=first | assumption | omega) only [b7,List.foldr_cons,List.foldr_nil,Env.ins,dB,dC,dD,dE,dF,dG,dH,dI,aj.cP,List.length_map,Int.natCast_add,Int.natCast_one,Int.natCast_zero,List.take_zero,dJ,List.map_append,List.map_cons,List.map_nil,dN,dO,Int.reduceLE,Int.reduceLT,Int.reduceToNat,Int.reduceAdd,Int.reduceSub,↓reduceIte,Nat.reduceBEq,Nat.reduceAdd,Nat.reduceSub,Nat.reduceMul,Nat.reduceLT,Nat.reduceEqDiff,reduceCtorEq,Nat.reduceLeDiff];try rfl))⟩
  ·obtain rfl:i=j:=by omega
   (repeat' (first | (simp (disch:=first | assumption | omega) only [go_sem,gL,gJ,gK,gw,gg,gh,Int.reduceLE,Int.reduceLT,Int.reduceToNat,Int.reduceAdd,Int.reduceSub,↓reduceIte,Nat.reduceBEq,Nat.reduceAdd,Nat.reduceSub,Nat.reduceMul,Nat.reduceLT,Nat.reduceEqDiff,reduceCtorEq,Nat.reduceLeDiff]) | (refine cm ?_ ?_<;>intro)))
   refine e8 (fun k:Nat=>⟨N [(0,.v (.bI id 0 L 2)),(14,.v (enc i)),(17,.v (enc (m - k)))],eM 38 H id (oE l m k)⟩)
    (fun k=>k≤m - i) (fun k=>m - i - k) 0 (Nat.zero_le _) (by (try simp (disch:=first | assumption | omega) only [go_sem,Int.reduceLE,Int.reduceLT,Int.reduceToNat,Int.reduceAdd,Int.reduceSub,↓reduceIte,Nat.reduceBEq,Nat.reduceAdd,Nat.reduceSub,Nat.reduceMul,Nat.reduceLT,Nat.reduceEqDiff,reduceCtorEq,Nat.reduceLeDiff])<;>(first | rfl | (simp (disch:=first | assumption | omega) only [b7,List.foldr_cons,List.foldr_nil,Env.ins,dB,dC,dD,dE,dF,dG,dH,dI,aj.cP,List.length_map,Int.natCast_add,Int.natCast_one,Int.natCast_zero,List.take_zero,dJ,List.map_append,List.map_cons,List.map_nil,dN,dO,oE,Nat.sub_zero,Int.reduceLE,Int.reduceLT,Int.reduceToNat,Int.reduceAdd,Int.reduceSub,↓reduceIte,Nat.reduceBEq,Nat.reduceAdd,Nat.reduceSub,Nat.reduceMul,Nat.reduceLT,Nat.reduceEqDiff,reduceCtorEq,Nat.reduceLeDiff];try rfl))) ?_
   intro k ab
   have aom:=xH l m k
   (repeat' (first | (simp (disch:=first | assumption | omega) only [go_sem,gL,gJ,gK,gw,gg,gh,Int.reduceLE,Int.reduceLT,Int.reduceToNat,Int.reduceAdd,Int.reduceSub,↓reduceIte,Nat.reduceBEq,Nat.reduceAdd,Nat.reduceSub,Nat.reduceMul,Nat.reduceLT,Nat.reduceEqDiff,reduceCtorEq,Nat.reduceLeDiff]) | (refine cm ?_ ?_<;>intro)))
   ·have cf:((m - k:Nat):Int) - 1=((m - (k+1):Nat):Int):=by omega
    exact ⟨k+1,by omega,by omega,by (first | rfl | (simp (disch:=first | assumption | omega) only [b7,List.foldr_cons,List.foldr_nil,Env.ins,dB,dC,dD,dE,dF,dG,dH,dI,aj.cP,List.length_map,Int.natCast_add,Int.natCast_one,Int.natCast_zero,List.take_zero,dJ,List.map_append,List.map_cons,List.map_nil,dN,dO,cf,oE,iy,Int.reduceLE,Int.reduceLT,Int.reduceToNat,Int.reduceAdd,Int.reduceSub,↓reduceIte,Nat.reduceBEq,Nat.reduceAdd,Nat.reduceSub,Nat.reduceMul,Nat.reduceLT,Nat.reduceEqDiff,reduceCtorEq,Nat.reduceLeDiff];try rfl))⟩
   ·obtain rfl:k=m - i:=by omega
    exact ⟨_,rfl,rfl,_,rfl,TR _ (by omega) (by omega) (by omega),hN▸aoc kR (by omega) hJ (by omega) aS gX iz⟩
 have Ko:(m:Int) - (a:Int)≠1:=by omega
 have T4:(b:Int) - (m:Int)≠1:=by omega
 obtain ⟨a7,xI⟩:∃a7,a7=(a+b) / 2:=⟨_,rfl⟩
 have mZ:(((a+b) / 2:Nat):Int)=(a7:Int):=by rw [xI]
 have ja:((a7:Int)+(m:Int)) - 1=((a7+m - 1:Nat):Int):=by omega
 by_cases LU:a7<m
 ·have hx:((a7:Int)+(m:Int)) - (b:Int)=((a7+m - b:Nat):Int):=by omega
  simp (disch:=first | assumption | omega) only [go_sem,mZ,hx,ja,gg,gh,Int.reduceLE,Int.reduceLT,Int.reduceToNat,Int.reduceAdd,Int.reduceSub,↓reduceIte,Nat.reduceBEq,Nat.reduceAdd,Nat.reduceSub,Nat.reduceMul,Nat.reduceLT,Nat.reduceEqDiff,reduceCtorEq,Nat.reduceLeDiff]
  refine e8 (fun p:Nat×Nat=>⟨N [(0,.v (.bI id 0 L 2)),(1,.v (enc a)),(2,.v (enc m)),(3,.v (enc b)),(4,.v (.fn 75 [])),(18,.v (enc a7)),(19,.v (.int .i64 ((a7:Int)+m))),(20,.v (enc p.1)),(21,.v (enc p.2)),(22,.v (enc (a7+m - 1)))],eM 38 H id l⟩)
   (fun p=>(a7+m - b)≤p.1∧p.1≤p.2∧p.2≤a7∧(p.1=(a7+m - b)∨¬bJ l[a7+m - 1 - (p.1 - 1)]! l[p.1 - 1]! < 0)∧(p.2=a7∨bJ l[a7+m - 1 - p.2]! l[p.2]! < 0)) (fun p=>p.2 - p.1) ((a7+m - b),a7)
   ⟨Nat.le_refl _,by simp only;omega,Nat.le_refl _,.inl rfl,.inl rfl⟩ (by (try simp (disch:=first | assumption | omega) only [go_sem,Int.reduceLE,Int.reduceLT,Int.reduceToNat,Int.reduceAdd,Int.reduceSub,↓reduceIte,Nat.reduceBEq,Nat.reduceAdd,Nat.reduceSub,Nat.reduceMul,Nat.reduceLT,Nat.reduceEqDiff,reduceCtorEq,Nat.reduceLeDiff])<;>(first | rfl | (simp (disch:=first | assumption | omega) only [b7,List.foldr_cons,List.foldr_nil,Env.ins,dB,dC,dD,dE,dF,dG,dH,dI,aj.cP,List.length_map,Int.natCast_add,Int.natCast_one,Int.natCast_zero,List.take_zero,dJ,List.map_append,List.map_cons,List.map_nil,dN,dO,hx,ja,Int.reduceLE,Int.reduceLT,Int.reduceToNat,Int.reduceAdd,Int.reduceSub,↓reduceIte,Nat.reduceBEq,Nat.reduceAdd,Nat.reduceSub,Nat.reduceMul,Nat.reduceLT,Nat.reduceEqDiff,reduceCtorEq,Nat.reduceLeDiff];try rfl))) ?_
  rintro ⟨s,r⟩ ⟨e6,iQ,hJ,gX,iz⟩
  simp only at e6 iQ hJ gX iz
  have a1:a7+m≤s+b:=by omega
  by_cases aon:s<r
  ·have av:(((a7+m - 1:Nat):Int) - (((s+r) / 2:Nat):Int)).toNat=a7+m - 1 - (s+r) / 2:=by omega
   by_cases af:bJ l[a7+m - 1 - (s+r) / 2]! l[(s+r) / 2]! < 0
   ·(repeat' (first | (simp (disch:=first | assumption | omega) only [go_sem,gL,gJ,gK,gw,gg,gh,av,Int.reduceLE,Int.reduceLT,Int.reduceToNat,Int.reduceAdd,Int.reduceSub,↓reduceIte,Nat.reduceBEq,Nat.reduceAdd,Nat.reduceSub,Nat.reduceMul,Nat.reduceLT,Nat.reduceEqDiff,reduceCtorEq,Nat.reduceLeDiff]) | (refine cm ?_ ?_<;>intro) | (refine oC ?_)))
    exact ⟨(s,(s+r) / 2),⟨e6,by simp only;omega,by simp only;omega,gX,.inr af⟩,by simp only;omega,by (first | rfl | (simp (disch:=first | assumption | omega) only [b7,List.foldr_cons,List.foldr_nil,Env.ins,dB,dC,dD,dE,dF,dG,dH,dI,aj.cP,List.length_map,Int.natCast_add,Int.natCast_one,Int.natCast_zero,List.take_zero,dJ,List.map_append,List.map_cons,List.map_nil,dN,dO,Int.reduceLE,Int.reduceLT,Int.reduceToNat,Int.reduceAdd,Int.reduceSub,↓reduceIte,Nat.reduceBEq,Nat.reduceAdd,Nat.reduceSub,Nat.reduceMul,Nat.reduceLT,Nat.reduceEqDiff,reduceCtorEq,Nat.reduceLeDiff];try rfl))⟩
   ·(repeat' (first | (simp (disch:=first | assumption | omega) only [go_sem,gL,gJ,gK,gw,gg,gh,av,Int.reduceLE,Int.reduceLT,Int.reduceToNat,Int.reduceAdd,Int.reduceSub,↓reduceIte,Nat.reduceBEq,Nat.reduceAdd,Nat.reduceSub,Nat.reduceMul,Nat.reduceLT,Nat.reduceEqDiff,reduceCtorEq,Nat.reduceLeDiff]) | (refine cm ?_ ?_<;>intro) | (refine oC ?_)))
    exact ⟨((s+r) / 2+1,r),⟨by simp only;omega,by simp only;omega,hJ,.inr af,iz⟩,by simp only;omega,by (first | rfl | (simp (disch:=first | assumption | omega) only [b7,List.foldr_cons,List.foldr_nil,Env.ins,dB,dC,dD,dE,dF,dG,dH,dI,aj.cP,List.length_map,Int.natCast_add,Int.natCast_one,Int.natCast_zero,List.take_zero,dJ,List.map_append,List.map_cons,List.map_nil,dN,dO,Int.reduceLE,Int.reduceLT,Int.reduceToNat,Int.reduceAdd,Int.reduceSub,↓reduceIte,Nat.reduceBEq,Nat.reduceAdd,Nat.reduceSub,Nat.reduceMul,Nat.reduceLT,Nat.reduceEqDiff,reduceCtorEq,Nat.reduceLeDiff];try rfl))⟩
  ·simp (disch:=first | assumption | omega) only [go_sem,Int.reduceLE,Int.reduceLT,Int.reduceToNat,Int.reduceAdd,Int.reduceSub,↓reduceIte,Nat.reduceBEq,Nat.reduceAdd,Nat.reduceSub,Nat.reduceMul,Nat.reduceLT,Nat.reduceEqDiff,reduceCtorEq,Nat.reduceLeDiff]
   exact T2 bG c7 ih a0 R aa al dy aS eD xI (by omega) (by omega) (by omega) a1 (by omega) (by omega) (by
    rcases gX with h | h
    ·first | exact .inl (by omega) | exact .inr (.inl (by omega))
    ·exact .inr (.inr h)) (by
    obtain rfl:s=r:=by omega
    rcases iz with h | h
    ·first | exact .inl (by omega) | exact .inr (.inl (by omega))
    ·exact .inr (.inr h)) _ _
 ·simp (disch:=first | assumption | omega) only [go_sem,mZ,ja,gg,gh,Int.reduceLE,Int.reduceLT,Int.reduceToNat,Int.reduceAdd,Int.reduceSub,↓reduceIte,Nat.reduceBEq,Nat.reduceAdd,Nat.reduceSub,Nat.reduceMul,Nat.reduceLT,Nat.reduceEqDiff,reduceCtorEq,Nat.reduceLeDiff]
  refine e8 (fun p:Nat×Nat=>⟨N [(0,.v (.bI id 0 L 2)),(1,.v (enc a)),(2,.v (enc m)),(3,.v (enc b)),(4,.v (.fn 75 [])),(18,.v (enc a7)),(19,.v (.int .i64 ((a7:Int)+m))),(20,.v (enc p.1)),(21,.v (enc p.2)),(22,.v (enc (a7+m - 1)))],eM 38 H id l⟩)
   (fun p=>a≤p.1∧p.1≤p.2∧p.2≤m∧(p.1=a∨¬bJ l[a7+m - 1 - (p.1 - 1)]! l[p.1 - 1]! < 0)∧(p.2=m∨bJ l[a7+m - 1 - p.2]! l[p.2]! < 0)) (fun p=>p.2 - p.1) (a,m)
   ⟨Nat.le_refl _,by simp only;omega,Nat.le_refl _,.inl rfl,.inl rfl⟩ (by (try simp (disch:=first | assumption | omega) only [go_sem,Int.reduceLE,Int.reduceLT,Int.reduceToNat,Int.reduceAdd,Int.reduceSub,↓reduceIte,Nat.reduceBEq,Nat.reduceAdd,Nat.reduceSub,Nat.reduceMul,Nat.reduceLT,Nat.reduceEqDiff,reduceCtorEq,Nat.reduceLeDiff])<;>(first | rfl | (simp (disch:=first | assumption | omega) only [b7,List.foldr_cons,List.foldr_nil,Env.ins,dB,dC,dD,dE,dF,dG,dH,dI,aj.cP,List.length_map,Int.natCast_add,Int.natCast_one,Int.natCast_zero,List.take_zero,dJ,List.map_append,List.map_cons,List.map_nil,dN,dO,ja,Int.reduceLE,Int.reduceLT,Int.reduceToNat,Int.reduceAdd,Int.reduceSub,↓reduceIte,Nat.reduceBEq,Nat.reduceAdd,Nat.reduceSub,Nat.reduceMul,Nat.reduceLT,Nat.reduceEqDiff,reduceCtorEq,Nat.reduceLeDiff];try rfl))) ?_
  rintro ⟨s,r⟩ ⟨e6,iQ,hJ,gX,iz⟩
  simp only at e6 iQ hJ gX iz
  have a1:a7+m≤s+b:=by omega
  by_cases aon:s<r
  ·have av:(((a7+m - 1:Nat):Int) - (((s+r) / 2:Nat):Int)).toNat=a7+m - 1 - (s+r) / 2:=by omega
   by_cases af:bJ l[a7+m - 1 - (s+r) / 2]! l[(s+r) / 2]! < 0
   ·(repeat' (first | (simp (disch:=first | assumption | omega) only [go_sem,gL,gJ,gK,gw,gg,gh,av,Int.reduceLE,Int.reduceLT,Int.reduceToNat,Int.reduceAdd,Int.reduceSub,↓reduceIte,Nat.reduceBEq,Nat.reduceAdd,Nat.reduceSub,Nat.reduceMul,Nat.reduceLT,Nat.reduceEqDiff,reduceCtorEq,Nat.reduceLeDiff]) | (refine cm ?_ ?_<;>intro) | (refine oC ?_)))
    exact ⟨(s,(s+r) / 2),⟨e6,by simp only;omega,by simp only;omega,gX,.inr af⟩,by simp only;omega,by (first | rfl | (simp (disch:=first | assumption | omega) only [b7,List.foldr_cons,List.foldr_nil,Env.ins,dB,dC,dD,dE,dF,dG,dH,dI,aj.cP,List.length_map,Int.natCast_add,Int.natCast_one,Int.natCast_zero,List.take_zero,dJ,List.map_append,List.map_cons,List.map_nil,dN,dO,Int.reduceLE,Int.reduceLT,Int.reduceToNat,Int.reduceAdd,Int.reduceSub,↓reduceIte,Nat.reduceBEq,Nat.reduceAdd,Nat.reduceSub,Nat.reduceMul,Nat.reduceLT,Nat.reduceEqDiff,reduceCtorEq,Nat.reduceLeDiff];try rfl))⟩
   ·(repeat' (first | (simp (disch:=first | assumption | omega) only [go_sem,gL,gJ,gK,gw,gg,gh,av,Int.reduceLE,Int.reduceLT,Int.reduceToNat,Int.reduceAdd,Int.reduceSub,↓reduceIte,Nat.reduceBEq,Nat.reduceAdd,Nat.reduceSub,Nat.reduceMul,Nat.reduceLT,Nat.reduceEqDiff,reduceCtorEq,Nat.reduceLeDiff]) | (refine cm ?_ ?_<;>intro) | (refine oC ?_)))
    exact ⟨((s+r) / 2+1,r),⟨by simp only;omega,by simp only;omega,hJ,.inr af,iz⟩,by simp only;omega,by (first | rfl | (simp (disch:=first | assumption | omega) only [b7,List.foldr_cons,List.foldr_nil,Env.ins,dB,dC,dD,dE,dF,dG,dH,dI,aj.cP,List.length_map,Int.natCast_add,Int.natCast_one,Int.natCast_zero,List.take_zero,dJ,List.map_append,List.map_cons,List.map_nil,dN,dO,Int.reduceLE,Int.reduceLT,Int.reduceToNat,Int.reduceAdd,Int.reduceSub,↓reduceIte,Nat.reduceBEq,Nat.reduceAdd,Nat.reduceSub,Nat.reduceMul,Nat.reduceLT,Nat.reduceEqDiff,reduceCtorEq,Nat.reduceLeDiff];try rfl))⟩
  ·simp (disch:=first | assumption | omega) only [go_sem,Int.reduceLE,Int.reduceLT,Int.reduceToNat,Int.reduceAdd,Int.reduceSub,↓reduceIte,Nat.reduceBEq,Nat.reduceAdd,Nat.reduceSub,Nat.reduceMul,Nat.reduceLT,Nat.reduceEqDiff,reduceCtorEq,Nat.reduceLeDiff]
   exact T2 bG c7 ih a0 R aa al dy aS eD xI (by omega) (by omega) (by omega) a1 (by omega) (by omega) (by
    rcases gX with h | h
    ·first | exact .inl (by omega) | exact .inr (.inl (by omega))
    ·exact .inr (.inr h)) (by
    obtain rfl:s=r:=by omega
    rcases iz with h | h
    ·first | exact .inl (by omega) | exact .inr (.inl (by omega))
    ·exact .inr (.inr h)) _ _
end AM
