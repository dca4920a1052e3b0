/- term.Sort: the terms in strictly ascending order. Conditions: none. -/
import Derived.Test.YtjpfdkecffnlbaaGreatDoorW6
import Derived.Test.YtjpfdkecffnlbaaGreatDoorAm14
set_option maxRecDepth 100000
set_option maxHeartbeats 4000000
set_option linter.unusedSimpArgs false
set_option linter.unusedVariables false
namespace AM
open Go Go.Proofs
open Enc (enc)
theorem aoJ (x:AV) (l:List aj) (ai:x=.eE 2∧l=[]∨x=enc l∧l≠[]) (c7:l.length≤M) :
  ec Tryz.prog bq 73 [x] [] fun r H'=>r=.bI 2 0 l.length 2∧H'=eM 38 [.dead,.dead,.dead,.dead] 2 l:=by
 have nO:M=1099511627776:=rfl
 refine ec.intro (D:=kh) Rh ?_
 unfold GW
 rcases ai with ⟨rfl,rfl⟩ | ⟨rfl,aN⟩
 ·(repeat' (first | (simp (disch:=first | assumption | omega) only [go_sem,uD,Int.reduceLE,Int.reduceLT,Int.reduceToNat,Int.reduceAdd,Int.reduceSub,↓reduceIte,Nat.reduceBEq,Nat.reduceAdd,Nat.reduceSub,Nat.reduceMul,Nat.reduceLT,Nat.reduceEqDiff,reduceCtorEq,Nat.reduceLeDiff]) | (refine cm ?_ ?_<;>intro)))
  rw [if_pos (show (2 != 0)=true from rfl)]
  simp only [AV.sP,AV.fy,List.getElem?_cons_zero,List.flatten_nil,List.length_nil,Nat.zero_mul,Nat.le_refl,Nat.zero_add,true_and,Nat.zero_le,if_true,List.take_zero,List.map_nil,List.nil_append,List.set_cons_zero]
  (repeat' (first | (simp (disch:=first | assumption | omega) only [go_sem,uD,Int.reduceLE,Int.reduceLT,Int.reduceToNat,Int.reduceAdd,Int.reduceSub,↓reduceIte,Nat.reduceBEq,Nat.reduceAdd,Nat.reduceSub,Nat.reduceMul,Nat.reduceLT,Nat.reduceEqDiff,reduceCtorEq,Nat.reduceLeDiff]) | (refine cm ?_ ?_<;>intro)))
  exact ⟨_,rfl,rfl,rfl⟩
 ·(repeat' (first | (simp (disch:=first | assumption | omega) only [go_sem,uD,Int.reduceLE,Int.reduceLT,Int.reduceToNat,Int.reduceAdd,Int.reduceSub,↓reduceIte,Nat.reduceBEq,Nat.reduceAdd,Nat.reduceSub,Nat.reduceMul,Nat.reduceLT,Nat.reduceEqDiff,reduceCtorEq,Nat.reduceLeDiff]) | (refine cm ?_ ?_<;>intro)))
  rw [if_pos (show (2 != 0)=true from rfl)]
  simp only [AV.sP,AV.fy,List.getElem?_cons_zero,List.flatten_nil,List.length_nil,Nat.zero_mul,Nat.le_refl,Nat.zero_add,true_and,List.length_map,c7,if_true,List.take_zero,List.map_nil,List.nil_append,List.set_cons_zero,Ub]
  (repeat' (first | (simp (disch:=first | assumption | omega) only [go_sem,uD,Int.reduceLE,Int.reduceLT,Int.reduceToNat,Int.reduceAdd,Int.reduceSub,↓reduceIte,Nat.reduceBEq,Nat.reduceAdd,Nat.reduceSub,Nat.reduceMul,Nat.reduceLT,Nat.reduceEqDiff,reduceCtorEq,Nat.reduceLeDiff]) | (refine cm ?_ ?_<;>intro)))
  exact ⟨_,rfl,rfl,rfl⟩
theorem aoK (H:List aM):ec Tryz.prog bq 159 [.aH 2,.int .i64 0,.int .i64 0,.fn 75 []] H fun r H'=>r=.bw []∧H'=H:=by
 refine ec.intro (D:=kh) At ?_
 unfold xj
 simp (disch:=first | assumption | omega) only [go_sem,Int.reduceLE,Int.reduceLT,Int.reduceToNat,Int.reduceAdd,Int.reduceSub,↓reduceIte,Nat.reduceBEq,Nat.reduceAdd,Nat.reduceSub,Nat.reduceMul,Nat.reduceLT,Nat.reduceEqDiff,reduceCtorEq,Nat.reduceLeDiff]
 refine e8 (fun p:Unit=>⟨N [(0,.v (.aH 2)),(1,.v (.int .i64 0)),(2,.v (.int .i64 0)),(3,.v (.fn 75 [])),(8,.v (.int .i64 1))],H⟩) (fun p=>True) (fun p=>0) () trivial (by (try simp (disch:=first | assumption | omega) only [go_sem,Int.reduceLE,Int.reduceLT,Int.reduceToNat,Int.reduceAdd,Int.reduceSub,↓reduceIte,Nat.reduceBEq,Nat.reduceAdd,Nat.reduceSub,Nat.reduceMul,Nat.reduceLT,Nat.reduceEqDiff,reduceCtorEq,Nat.reduceLeDiff])<;>(first | rfl | (simp (disch:=first | assumption | omega) only [b7,List.foldr_cons,List.foldr_nil,Env.ins,dB,dC,dD,dE,dF,dG,dH,dI,aj.cP,List.length_map,Int.natCast_add,Int.natCast_one,Int.natCast_zero,List.take_zero,dJ,List.map_append,List.map_cons,List.map_nil,dN,dO,Int.reduceLE,Int.reduceLT,Int.reduceToNat,Int.reduceAdd,Int.reduceSub,↓reduceIte,Nat.reduceBEq,Nat.reduceAdd,Nat.reduceSub,Nat.reduceMul,Nat.reduceLT,Nat.reduceEqDiff,reduceCtorEq,Nat.reduceLeDiff];try rfl))) ?_
 intro _ _
 (repeat' (first | (simp (disch:=first | assumption | omega) only [go_sem,pN,sn,Int.reduceLE,Int.reduceLT,Int.reduceToNat,Int.reduceAdd,Int.reduceSub,↓reduceIte,Nat.reduceBEq,Nat.reduceAdd,Nat.reduceSub,Nat.reduceMul,Nat.reduceLT,Nat.reduceEqDiff,reduceCtorEq,Nat.reduceLeDiff]) | (refine cm ?_ ?_<;>intro)))
 exact ⟨_,rfl,rfl⟩
theorem aoL (H:List aM):ec Tryz.prog bq 120 [.aH 2,.int .i64 0,.fn 75 []] H fun r H'=>r=.bw []∧H'=H:=by
 refine ec.intro (D:=kh) RK ?_
 unfold HQ
 simp (disch:=first | assumption | omega) only [go_sem,Int.reduceLE,Int.reduceLT,Int.reduceToNat,Int.reduceAdd,Int.reduceSub,↓reduceIte,Nat.reduceBEq,Nat.reduceAdd,Nat.reduceSub,Nat.reduceMul,Nat.reduceLT,Nat.reduceEqDiff,reduceCtorEq,Nat.reduceLeDiff]
 refine e8 (fun p:Unit=>⟨N [(0,.v (.aH 2)),(1,.v (.int .i64 0)),(2,.v (.fn 75 [])),(6,.v (.int .i64 20)),(7,.v (.int .i64 0)),(8,.v (.int .i64 20))],H⟩) (fun p=>True) (fun p=>0) () trivial (by (try simp (disch:=first | assumption | omega) only [go_sem,Int.reduceLE,Int.reduceLT,Int.reduceToNat,Int.reduceAdd,Int.reduceSub,↓reduceIte,Nat.reduceBEq,Nat.reduceAdd,Nat.reduceSub,Nat.reduceMul,Nat.reduceLT,Nat.reduceEqDiff,reduceCtorEq,Nat.reduceLeDiff])<;>(first | rfl | (simp (disch:=first | assumption | omega) only [b7,List.foldr_cons,List.foldr_nil,Env.ins,dB,dC,dD,dE,dF,dG,dH,dI,aj.cP,List.length_map,Int.natCast_add,Int.natCast_one,Int.natCast_zero,List.take_zero,dJ,List.map_append,List.map_cons,List.map_nil,dN,dO,Int.reduceLE,Int.reduceLT,Int.reduceToNat,Int.reduceAdd,Int.reduceSub,↓reduceIte,Nat.reduceBEq,Nat.reduceAdd,Nat.reduceSub,Nat.reduceMul,Nat.reduceLT,Nat.reduceEqDiff,reduceCtorEq,Nat.reduceLeDiff];try rfl))) ?_
 intro _ _
 (repeat' (first | (simp (disch:=first | assumption | omega) only [go_sem,lq,lo,lp,Int.reduceLE,Int.reduceLT,Int.reduceToNat,Int.reduceAdd,Int.reduceSub,↓reduceIte,Nat.reduceBEq,Nat.reduceAdd,Nat.reduceSub,Nat.reduceMul,Nat.reduceLT,Nat.reduceEqDiff,reduceCtorEq,Nat.reduceLeDiff]) | (refine cm ?_ ?_<;>intro) | (refine mO (aoK H) ?_)))
 refine e8 (fun p:Unit=>⟨N [(0,.v (.aH 2)),(1,.v (.int .i64 0)),(2,.v (.fn 75 [])),(6,.v (.int .i64 20))],H⟩) (fun p=>True) (fun p=>0) () trivial (by (try simp (disch:=first | assumption | omega) only [go_sem,Int.reduceLE,Int.reduceLT,Int.reduceToNat,Int.reduceAdd,Int.reduceSub,↓reduceIte,Nat.reduceBEq,Nat.reduceAdd,Nat.reduceSub,Nat.reduceMul,Nat.reduceLT,Nat.reduceEqDiff,reduceCtorEq,Nat.reduceLeDiff])<;>(first | rfl | (simp (disch:=first | assumption | omega) only [b7,List.foldr_cons,List.foldr_nil,Env.ins,dB,dC,dD,dE,dF,dG,dH,dI,aj.cP,List.length_map,Int.natCast_add,Int.natCast_one,Int.natCast_zero,List.take_zero,dJ,List.map_append,List.map_cons,List.map_nil,dN,dO,Int.reduceLE,Int.reduceLT,Int.reduceToNat,Int.reduceAdd,Int.reduceSub,↓reduceIte,Nat.reduceBEq,Nat.reduceAdd,Nat.reduceSub,Nat.reduceMul,Nat.reduceLT,Nat.reduceEqDiff,reduceCtorEq,Nat.reduceLeDiff];try rfl))) ?_
 intro _ _
 (repeat' (first | (simp (disch:=first | assumption | omega) only [go_sem,lq,lo,lp,Int.reduceLE,Int.reduceLT,Int.reduceToNat,Int.reduceAdd,Int.reduceSub,↓reduceIte,Nat.reduceBEq,Nat.reduceAdd,Nat.reduceSub,Nat.reduceMul,Nat.reduceLT,Nat.reduceEqDiff,reduceCtorEq,Nat.reduceLeDiff]) | (refine cm ?_ ?_<;>intro)))
 exact ⟨_,rfl,rfl⟩
theorem aoM (H:List aM):ec Tryz.prog bq 74 [.aH 2,.fn 75 []] H fun r H'=>r=.bw []∧H'=H:=by
 refine ec.intro (D:=kh) As ?_
 unfold xh
 (repeat' (first | (simp (disch:=first | assumption | omega) only [go_sem,uE,Int.reduceLE,Int.reduceLT,Int.reduceToNat,Int.reduceAdd,Int.reduceSub,↓reduceIte,Nat.reduceBEq,Nat.reduceAdd,Nat.reduceSub,Nat.reduceMul,Nat.reduceLT,Nat.reduceEqDiff,reduceCtorEq,Nat.reduceLeDiff]) | (refine cm ?_ ?_<;>intro) | (refine mO (aoL H) ?_)))
 exact ⟨_,rfl,rfl⟩
theorem aoN (H:List aM):ec Tryz.prog bq 73 [.aH 2] H fun r H'=>r=.aH 2∧H'=H:=by
 refine ec.intro (D:=kh) Rh ?_
 unfold GW
 (repeat' (first | (simp (disch:=first | assumption | omega) only [go_sem,uD,Int.reduceLE,Int.reduceLT,Int.reduceToNat,Int.reduceAdd,Int.reduceSub,↓reduceIte,Nat.reduceBEq,Nat.reduceAdd,Nat.reduceSub,Nat.reduceMul,Nat.reduceLT,Nat.reduceEqDiff,reduceCtorEq,Nat.reduceLeDiff]) | (refine cm ?_ ?_<;>intro)))
 exact ⟨_,rfl,rfl⟩
noncomputable def Ks:List qY:=[(36,kf fun (l:List aj)=>enc (kS l))]
noncomputable def oG:cv:=nI kh (lv Ks)
instance are {D:cv} [h:eI D oG]:eI D kh:=h.xu
theorem Ug:kQ oG ([36]++([54]++[81,126,161,132,80,51,75,122,124,34,9,76,66,157,150,158,37,12])):=kQ.or TC (u0 Ks)
theorem aoO {f:Nat} {F:List AV→Option AV} (h:∀xs,lv Ks f xs=F xs) (ab:(([54]++[81,126,161,132,80,51,75,122,124,34,9,76,66,157,150,158,37,12]):List Nat).contains f=false:=by rfl):∀xs,oG f xs=F xs:=fun xs=>by rw [←h];exact AJ TC ab
theorem aoP {D:cv} [eI D oG] {x1:AV} {l:List aj} [cj x1 l] {K:AV→Prop} {tg:bA K} (h:a4 Tryz.prog bq 36 [enc l] (enc (kS l))):gy Tryz.prog bq D 36 [x1] K tg=K (enc (kS l)):=J9 (D':=oG) (F:=fun (l:List aj)=>enc (kS l)) (aoO fun _=>rfl) h
theorem aoQ:a4 Tryz.prog bq 36 [.aH 2] (enc ([]:List aj)):=by
 refine a4.sl (D:=oG) QV rfl rfl (Enc.ux _) ?_
 unfold Gd
 (repeat' (first | (simp (disch:=first | assumption | omega) only [go_sem,pL,pK,Int.reduceLE,Int.reduceLT,Int.reduceToNat,Int.reduceAdd,Int.reduceSub,↓reduceIte,Nat.reduceBEq,Nat.reduceAdd,Nat.reduceSub,Nat.reduceMul,Nat.reduceLT,Nat.reduceEqDiff,reduceCtorEq,Nat.reduceLeDiff]) | (refine cm ?_ ?_<;>intro) | (refine mO (aoN []) ?_) | (refine mO (aoM []) ?_)))
 refine e8 (fun p:Unit=>⟨N [(3,.v (.aH 2)),(4,.v (.list (some 38) 2 [])),(11,.v (.aH 2)),(12,.v (.int .i64 0)),(13,.v (.int .i64 0))],[]⟩) (fun p=>True) (fun p=>0) () trivial (by (try simp (disch:=first | assumption | omega) only [go_sem,Int.reduceLE,Int.reduceLT,Int.reduceToNat,Int.reduceAdd,Int.reduceSub,↓reduceIte,Nat.reduceBEq,Nat.reduceAdd,Nat.reduceSub,Nat.reduceMul,Nat.reduceLT,Nat.reduceEqDiff,reduceCtorEq,Nat.reduceLeDiff])<;>(first | rfl | (simp (disch:=first | assumption | omega) only [b7,List.foldr_cons,List.foldr_nil,Env.ins,dB,dC,dD,dE,dF,dG,dH,dI,aj.cP,List.length_map,Int.natCast_add,Int.natCast_one,Int.natCast_zero,List.take_zero,dJ,List.map_append,List.map_cons,List.map_nil,dN,dO,Int.reduceLE,Int.reduceLT,Int.reduceToNat,Int.reduceAdd,Int.reduceSub,↓reduceIte,Nat.reduceBEq,Nat.reduceAdd,Nat.reduceSub,Nat.reduceMul,Nat.reduceLT,Nat.reduceEqDiff,reduceCtorEq,Nat.reduceLeDiff];try rfl))) ?_
 intro _ _
 (repeat' (first | (simp (disch:=first | assumption | omega) only [go_sem,pL,pK,Int.reduceLE,Int.reduceLT,Int.reduceToNat,Int.reduceAdd,Int.reduceSub,↓reduceIte,Nat.reduceBEq,Nat.reduceAdd,Nat.reduceSub,Nat.reduceMul,Nat.reduceLT,Nat.reduceEqDiff,reduceCtorEq,Nat.reduceLeDiff]) | (refine cm ?_ ?_<;>intro)))
 exact ⟨_,rfl,eZ.disown _ _ _⟩
theorem Uh (x:AV) (l:List aj) (ai:x=.eE 2∧l=[]∨x=enc l∧l≠[]) (c7:l.length≤M):a4 Tryz.prog bq 36 [x] (enc (kS l)):=by
 have nO:M=1099511627776:=rfl
 refine a4.sl (D:=oG) QV (by rcases ai with ⟨rfl,_⟩ | ⟨rfl,_⟩<;>rfl) rfl (Enc.ux _) ?_
 unfold Gd
 obtain ⟨n,a1⟩:∃n,n=l.length:=⟨_,rfl⟩
 have af:=aoJ x l ai c7
 rw [←a1] at af
 have jd:x.aL=x:=by rcases ai with ⟨rfl,_⟩ | ⟨rfl,_⟩<;>first | rfl | exact Enc.aL _
 (repeat' (first | (simp (disch:=first | assumption | omega) only [go_sem,pL,pK,jd,Int.reduceLE,Int.reduceLT,Int.reduceToNat,Int.reduceAdd,Int.reduceSub,↓reduceIte,Nat.reduceBEq,Nat.reduceAdd,Nat.reduceSub,Nat.reduceMul,Nat.reduceLT,Nat.reduceEqDiff,reduceCtorEq,Nat.reduceLeDiff]) | (refine cm ?_ ?_<;>intro) | (refine mO af ?_) | (refine nN (aoq (by decide) (a1▸c7) a1.symm) (nM kR _ (by omega)) ?_)))
 rintro cn ⟨cr,cX⟩
 have g5:cn.length=n:=cr.len.trans a1.symm
 have hh:(eM 38 [.dead,.dead,.dead,.dead] 2 cn)[2]?=some (.buf 38 (e0 cn)):=TW (by decide)
 (repeat' (first | (simp (disch:=first | assumption | omega) only [go_sem,pL,pK,hh,Int.reduceLE,Int.reduceLT,Int.reduceToNat,Int.reduceAdd,Int.reduceSub,↓reduceIte,Nat.reduceBEq,Nat.reduceAdd,Nat.reduceSub,Nat.reduceMul,Nat.reduceLT,Nat.reduceEqDiff,reduceCtorEq,Nat.reduceLeDiff]) | (refine cm ?_ ?_<;>intro)))
 refine e8 (fun i:Nat=>⟨N [(3,.v (.list (some 38) 2 (cn.map aj.enc))),(4,.v (.list (some 38) 2 ((ig cn i).map aj.enc))),(11,.v (enc cn)),(12,.v (enc n)),(13,.v (enc i))],(eM 38 [.dead,.dead,.dead,.dead] 2 cn).set 2 .dead⟩) (fun i=>i≤n) (fun i=>n - i) 0 (Nat.zero_le _) (by (try simp (disch:=first | assumption | omega) only [go_sem,g5,Int.reduceLE,Int.reduceLT,Int.reduceToNat,Int.reduceAdd,Int.reduceSub,↓reduceIte,Nat.reduceBEq,Nat.reduceAdd,Nat.reduceSub,Nat.reduceMul,Nat.reduceLT,Nat.reduceEqDiff,reduceCtorEq,Nat.reduceLeDiff])<;>(first | rfl | (simp (disch:=first | assumption | omega) only [b7,List.foldr_cons,List.foldr_nil,Env.ins,dB,dC,dD,dE,dF,dG,dH,dI,aj.cP,List.length_map,Int.natCast_add,Int.natCast_one,Int.natCast_zero,List.take_zero,dJ,List.map_append,List.map_cons,List.map_nil,dN,dO,g5,ig,Int.reduceLE,Int.reduceLT,Int.reduceToNat,Int.reduceAdd,Int.reduceSub,↓reduceIte,Nat.reduceBEq,Nat.reduceAdd,Nat.reduceSub,Nat.reduceMul,Nat.reduceLT,Nat.reduceEqDiff,reduceCtorEq,Nat.reduceLeDiff];try rfl))) ?_
 intro i av
 have arf:=T9 cn i
 by_cases h:i<n
 ·by_cases a0:i=0
  ·have aw:ig cn (i+1)=ig cn i++[cn[i]!]:=by rw [ig,if_pos (.inl a0)]
   (repeat' (first | (simp (disch:=first | assumption | omega) only [go_sem,pL,pK,Int.reduceLE,Int.reduceLT,Int.reduceToNat,Int.reduceAdd,Int.reduceSub,↓reduceIte,Nat.reduceBEq,Nat.reduceAdd,Nat.reduceSub,Nat.reduceMul,Nat.reduceLT,Nat.reduceEqDiff,reduceCtorEq,Nat.reduceLeDiff]) | (refine cm ?_ ?_<;>intro)))
   all_goals exact ⟨i+1,by omega,by omega,by (first | rfl | (simp (disch:=first | assumption | omega) only [b7,List.foldr_cons,List.foldr_nil,Env.ins,dB,dC,dD,dE,dF,dG,dH,dI,aj.cP,List.length_map,Int.natCast_add,Int.natCast_one,Int.natCast_zero,List.take_zero,dJ,List.map_append,List.map_cons,List.map_nil,dN,dO,aw,Int.reduceLE,Int.reduceLT,Int.reduceToNat,Int.reduceAdd,Int.reduceSub,↓reduceIte,Nat.reduceBEq,Nat.reduceAdd,Nat.reduceSub,Nat.reduceMul,Nat.reduceLT,Nat.reduceEqDiff,reduceCtorEq,Nat.reduceLeDiff];try rfl))⟩
  ·by_cases af:bJ cn[i - 1]! cn[i]! = 0
   ·have aw:ig cn (i+1)=ig cn i:=by rw [ig,if_neg (by rintro (e | e);exact a0 e;exact e af)]
    (repeat' (first | (simp (disch:=first | assumption | omega) only [go_sem,pL,pK,Int.reduceLE,Int.reduceLT,Int.reduceToNat,Int.reduceAdd,Int.reduceSub,↓reduceIte,Nat.reduceBEq,Nat.reduceAdd,Nat.reduceSub,Nat.reduceMul,Nat.reduceLT,Nat.reduceEqDiff,reduceCtorEq,Nat.reduceLeDiff]) | (refine cm ?_ ?_<;>intro)))
    all_goals exact ⟨i+1,by omega,by omega,by (first | rfl | (simp (disch:=first | assumption | omega) only [b7,List.foldr_cons,List.foldr_nil,Env.ins,dB,dC,dD,dE,dF,dG,dH,dI,aj.cP,List.length_map,Int.natCast_add,Int.natCast_one,Int.natCast_zero,List.take_zero,dJ,List.map_append,List.map_cons,List.map_nil,dN,dO,aw,Int.reduceLE,Int.reduceLT,Int.reduceToNat,Int.reduceAdd,Int.reduceSub,↓reduceIte,Nat.reduceBEq,Nat.reduceAdd,Nat.reduceSub,Nat.reduceMul,Nat.reduceLT,Nat.reduceEqDiff,reduceCtorEq,Nat.reduceLeDiff];try rfl))⟩
   ·have aw:ig cn (i+1)=ig cn i++[cn[i]!]:=by rw [ig,if_pos (.inr af)]
    (repeat' (first | (simp (disch:=first | assumption | omega) only [go_sem,pL,pK,Int.reduceLE,Int.reduceLT,Int.reduceToNat,Int.reduceAdd,Int.reduceSub,↓reduceIte,Nat.reduceBEq,Nat.reduceAdd,Nat.reduceSub,Nat.reduceMul,Nat.reduceLT,Nat.reduceEqDiff,reduceCtorEq,Nat.reduceLeDiff]) | (refine cm ?_ ?_<;>intro)))
    all_goals exact ⟨i+1,by omega,by omega,by (first | rfl | (simp (disch:=first | assumption | omega) only [b7,List.foldr_cons,List.foldr_nil,Env.ins,dB,dC,dD,dE,dF,dG,dH,dI,aj.cP,List.length_map,Int.natCast_add,Int.natCast_one,Int.natCast_zero,List.take_zero,dJ,List.map_append,List.map_cons,List.map_nil,dN,dO,aw,Int.reduceLE,Int.reduceLT,Int.reduceToNat,Int.reduceAdd,Int.reduceSub,↓reduceIte,Nat.reduceBEq,Nat.reduceAdd,Nat.reduceSub,Nat.reduceMul,Nat.reduceLT,Nat.reduceEqDiff,reduceCtorEq,Nat.reduceLeDiff];try rfl))⟩
 ·(repeat' (first | (simp (disch:=first | assumption | omega) only [go_sem,pL,pK,Int.reduceLE,Int.reduceLT,Int.reduceToNat,Int.reduceAdd,Int.reduceSub,↓reduceIte,Nat.reduceBEq,Nat.reduceAdd,Nat.reduceSub,Nat.reduceMul,Nat.reduceLT,Nat.reduceEqDiff,reduceCtorEq,Nat.reduceLeDiff]) | (refine cm ?_ ?_<;>intro)))
  obtain rfl:i=n:=by omega
  exact ⟨_,rfl,by rw [aoz a1 cr cX];exact eZ.disown _ _ _⟩
theorem aoR (l:List aj):a4 Tryz.prog bq 36 [enc l] (enc (kS l)):=by
 refine a4.Kd fun ah=>?_
 by_cases h:l=[]
 ·subst h
  exact a4.split aoQ (Uh (.eE 2) [] (.inl ⟨rfl,rfl⟩) (Nat.zero_le _))
 ·exact Uh (enc l) l (.inr ⟨rfl,h⟩) ah.1
theorem aoS {D:cv} [eI D oG] {x1:AV} {l:List aj} [cj x1 l]  {K:AV→Prop} {tg:bA K}:gy Tryz.prog bq D 36 [x1] K tg=K (enc (kS l)):=aoP (aoR l)
attribute [go_sem ↓ 2000] aoS
end AM
