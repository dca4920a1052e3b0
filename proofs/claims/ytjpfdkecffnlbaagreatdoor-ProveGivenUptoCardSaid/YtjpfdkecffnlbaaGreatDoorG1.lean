/- The law's body: prove.Given agrees with the specification. Conditions: none. -/
import Derived.Test.YtjpfdkecffnlbaaGreatDoorW9
set_option maxRecDepth 100000
set_option maxHeartbeats 4000000
set_option linter.unusedSimpArgs false
set_option linter.unusedVariables false
namespace AM
open Go Go.Proofs
open Enc (enc)
noncomputable def Uu:List qY:=[(6,fun _=>some (enc (true)))]
noncomputable def oH:cv:=nI iA (lv Uu)
instance arl {D:cv} [h:eI D oH]:eI D iA:=h.xu
theorem apr {f:Nat} {F:List AV→Option AV} (h:∀xs,lv Uu f xs=F xs) (ab:(([72,35,10]++([26,11]++([36]++([54]++[81,126,161,132,80,51,75,122,124,34,9,76,66,157,150,158,37,12])))):List Nat).contains f=false:=by rfl):∀xs,oH f xs=F xs:=fun xs=>by rw [←h];exact AJ aph ab
theorem aps {D:cv} [eI D oH]   {K:AV→Prop} {tg:bA K} (h:a4 Tryz.prog bq 6 [] (enc (true))):gy Tryz.prog bq D 6 [] K tg=K (enc (true)):=anr (D':=oH) ((show ∀xs,oH 6 xs=some (enc (true)) from apr fun _=>rfl) []) h
theorem apt (apu:a4 Tryz.prog bq 6 [] (enc true)) (s j r:List aj):a4 Tryz.prog bq 4 [enc s,enc j,enc r] (enc true):=by
 have aZ:=fun {K:AV→Prop} {tg:bA K}=>aps (D:=oH) (K:=K) (tg:=tg) apu
 cases R:kU 60 s with
 | false =>
  refine a4.intro (D:=oH) Ar (by simp only [List.all_cons,List.all_nil,Enc.arg,Bool.and_self]) (by first | rfl | exact Enc.res _) ?_
  unfold xb
  simp (disch:=first | assumption | omega) only [go_sem,Int.reduceLE,Int.reduceLT,Int.reduceToNat,Int.reduceAdd,Int.reduceSub,↓reduceIte,Nat.reduceBEq,Nat.reduceAdd,Nat.reduceSub,Nat.reduceMul,Nat.reduceLT,Nat.reduceEqDiff,reduceCtorEq,Nat.reduceLeDiff]
  (repeat' (first | (simp (disch:=first | assumption | omega) only [go_sem,xc,R,aZ,Int.reduceLE,Int.reduceLT,Int.reduceToNat,Int.reduceAdd,Int.reduceSub,↓reduceIte,Nat.reduceBEq,Nat.reduceAdd,Nat.reduceSub,Nat.reduceMul,Nat.reduceLT,Nat.reduceEqDiff,reduceCtorEq,Nat.reduceLeDiff]) | (refine cm ?_ ?_<;>intro)))
  all_goals rfl
 | true =>
 cases aa:kU 60 j with
 | false =>
  refine a4.intro (D:=oH) Ar (by simp only [List.all_cons,List.all_nil,Enc.arg,Bool.and_self]) (by first | rfl | exact Enc.res _) ?_
  unfold xb
  simp (disch:=first | assumption | omega) only [go_sem,Int.reduceLE,Int.reduceLT,Int.reduceToNat,Int.reduceAdd,Int.reduceSub,↓reduceIte,Nat.reduceBEq,Nat.reduceAdd,Nat.reduceSub,Nat.reduceMul,Nat.reduceLT,Nat.reduceEqDiff,reduceCtorEq,Nat.reduceLeDiff]
  (repeat' (first | (simp (disch:=first | assumption | omega) only [go_sem,xc,R,aa,aZ,Int.reduceLE,Int.reduceLT,Int.reduceToNat,Int.reduceAdd,Int.reduceSub,↓reduceIte,Nat.reduceBEq,Nat.reduceAdd,Nat.reduceSub,Nat.reduceMul,Nat.reduceLT,Nat.reduceEqDiff,reduceCtorEq,Nat.reduceLeDiff]) | (refine cm ?_ ?_<;>intro)))
  all_goals rfl
 | true =>
 cases al:kU 60 r with
 | false =>
  refine a4.intro (D:=oH) Ar (by simp only [List.all_cons,List.all_nil,Enc.arg,Bool.and_self]) (by first | rfl | exact Enc.res _) ?_
  unfold xb
  simp (disch:=first | assumption | omega) only [go_sem,Int.reduceLE,Int.reduceLT,Int.reduceToNat,Int.reduceAdd,Int.reduceSub,↓reduceIte,Nat.reduceBEq,Nat.reduceAdd,Nat.reduceSub,Nat.reduceMul,Nat.reduceLT,Nat.reduceEqDiff,reduceCtorEq,Nat.reduceLeDiff]
  (repeat' (first | (simp (disch:=first | assumption | omega) only [go_sem,xc,R,aa,al,aZ,Int.reduceLE,Int.reduceLT,Int.reduceToNat,Int.reduceAdd,Int.reduceSub,↓reduceIte,Nat.reduceBEq,Nat.reduceAdd,Nat.reduceSub,Nat.reduceMul,Nat.reduceLT,Nat.reduceEqDiff,reduceCtorEq,Nat.reduceLeDiff]) | (refine cm ?_ ?_<;>intro)))
  all_goals rfl
 | true =>
  have e5:=Kw (by omega) R
  have eQ:=Kw (by omega) aa
  have kN:=Kw (by omega) al
  have he:gW (g9 s j r) (g9 s j r)=true:=(Au _ _).2 rfl
  refine a4.intro (D:=oH) Ar (by simp only [List.all_cons,List.all_nil,Enc.arg,Bool.and_self]) (by first | rfl | exact Enc.res _) ?_
  unfold xb
  simp (disch:=first | assumption | omega) only [go_sem,Int.reduceLE,Int.reduceLT,Int.reduceToNat,Int.reduceAdd,Int.reduceSub,↓reduceIte,Nat.reduceBEq,Nat.reduceAdd,Nat.reduceSub,Nat.reduceMul,Nat.reduceLT,Nat.reduceEqDiff,reduceCtorEq,Nat.reduceLeDiff]
  (repeat' (first | (simp (disch:=first | assumption | omega) only [go_sem,xc,R,aa,al,he,aZ,Int.reduceLE,Int.reduceLT,Int.reduceToNat,Int.reduceAdd,Int.reduceSub,↓reduceIte,Nat.reduceBEq,Nat.reduceAdd,Nat.reduceSub,Nat.reduceMul,Nat.reduceLT,Nat.reduceEqDiff,reduceCtorEq,Nat.reduceLeDiff]) | (refine cm ?_ ?_<;>intro)))
  all_goals rfl
end AM
