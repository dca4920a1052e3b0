/- gameplayerplain.parts, Small, SmallTerms. Conditions: none. -/
import Derived.Test.YtjpfdkecffnlbaaGreatDoorW8
import Derived.Test.YtjpfdkecffnlbaaGreatDoorAm14
set_option maxRecDepth 100000
set_option maxHeartbeats 4000000
set_option linter.unusedSimpArgs false
set_option linter.unusedVariables false
namespace AM
open Go Go.Proofs
open Enc (enc)
noncomputable def Kx:List qY:=[(72,u1 fun (t:aj) (m:Int) (d:Int)=>enc (kT m d.toNat t)),
 (35,mL fun (t:aj) (m:Int)=>enc (nP m t)),
 (10,mL fun (l:List aj) (m:Int)=>enc (kU m l))]
noncomputable def iA:cv:=nI ly (lv Kx)
instance arj {D:cv} [h:eI D iA]:eI D ly:=h.xu
theorem aph:kQ iA ([72,35,10]++([26,11]++([36]++([54]++[81,126,161,132,80,51,75,122,124,34,9,76,66,157,150,158,37,12])))):=kQ.or Ul (u0 Kx)
theorem Ky {f:Nat} {F:List AV→Option AV} (h:∀xs,lv Kx f xs=F xs) (ab:(([26,11]++([36]++([54]++[81,126,161,132,80,51,75,122,124,34,9,76,66,157,150,158,37,12]))):List Nat).contains f=false:=by rfl):∀xs,iA f xs=F xs:=fun xs=>by rw [←h];exact AJ Ul ab
theorem Us {D:cv} [eI D iA] {x1 x2 x3:AV} {t:aj} {m:Int} {d:Int} [cj x1 t] [cj x2 m] [cj x3 d] {K:AV→Prop} {tg:bA K} (h:a4 Tryz.prog bq 72 [enc t,enc m,enc d] (enc (kT m d.toNat t))):gy Tryz.prog bq D 72 [x1,x2,x3] K tg=K (enc (kT m d.toNat t)):=Ka (D':=iA) (F:=fun (t:aj) (m:Int) (d:Int)=>enc (kT m d.toNat t)) (Ky fun _=>rfl) h
theorem api {D:cv} [eI D iA] {x1 x2:AV} {t:aj} {m:Int} [cj x1 t] [cj x2 m] {K:AV→Prop} {tg:bA K} (h:a4 Tryz.prog bq 35 [enc t,enc m] (enc (nP m t))):gy Tryz.prog bq D 35 [x1,x2] K tg=K (enc (nP m t)):=AL (D':=iA) (F:=fun (t:aj) (m:Int)=>enc (nP m t)) (Ky fun _=>rfl) h
theorem apj {D:cv} [eI D iA] {x1 x2:AV} {l:List aj} {m:Int} [cj x1 l] [cj x2 m] {K:AV→Prop} {tg:bA K} (h:a4 Tryz.prog bq 10 [enc l,enc m] (enc (kU m l))):gy Tryz.prog bq D 10 [x1,x2] K tg=K (enc (kU m l)):=AL (D':=iA) (F:=fun (l:List aj) (m:Int)=>enc (kU m l)) (Ky fun _=>rfl) h
theorem apk {m:Int} (hm:0≤m∧m≤1000):∀(d:Nat) (t:aj),(d:Int)≤m→a4 Tryz.prog bq 72 [enc t,enc m,enc (d:Int)] (enc (kT m d t)):=by
 intro d
 induction d with
 | zero =>
  intro t aw
  refine a4.intro (D:=iA) Rg (by simp only [List.all_cons,List.all_nil,Enc.arg,Bool.and_self]) (by first | rfl | exact Enc.res _) ?_
  unfold GV
  simp (disch:=first | assumption | omega) only [go_sem,Int.reduceLE,Int.reduceLT,Int.reduceToNat,Int.reduceAdd,Int.reduceSub,↓reduceIte,Nat.reduceBEq,Nat.reduceAdd,Nat.reduceSub,Nat.reduceMul,Nat.reduceLT,Nat.reduceEqDiff,reduceCtorEq,Nat.reduceLeDiff]
  (repeat' (first | (simp (disch:=first | assumption | omega) only [go_sem,uC,uB,Int.reduceLE,Int.reduceLT,Int.reduceToNat,Int.reduceAdd,Int.reduceSub,↓reduceIte,Nat.reduceBEq,Nat.reduceAdd,Nat.reduceSub,Nat.reduceMul,Nat.reduceLT,Nat.reduceEqDiff,reduceCtorEq,Nat.reduceLeDiff]) | (refine cm ?_ ?_<;>intro)))
  all_goals rfl
 | succ d ih =>
  intro t aw
  refine a4.Kd fun ah=>?_
  obtain ⟨_,ah,_⟩:=(aj.amu t).1 ah
  have nO:M=1099511627776:=rfl
  have oZ:((d:Int)+1) - 1=(d:Int):=by omega
  refine a4.intro (D:=iA) Rg (by simp only [List.all_cons,List.all_nil,Enc.arg,Bool.and_self]) (by first | rfl | exact Enc.res _) ?_
  unfold GV
  simp (disch:=first | assumption | omega) only [go_sem,Int.reduceLE,Int.reduceLT,Int.reduceToNat,Int.reduceAdd,Int.reduceSub,↓reduceIte,Nat.reduceBEq,Nat.reduceAdd,Nat.reduceSub,Nat.reduceMul,Nat.reduceLT,Nat.reduceEqDiff,reduceCtorEq,Nat.reduceLeDiff]
  (repeat' (first | (simp (disch:=first | assumption | omega) only [go_sem,uC,uB,Int.reduceLE,Int.reduceLT,Int.reduceToNat,Int.reduceAdd,Int.reduceSub,↓reduceIte,Nat.reduceBEq,Nat.reduceAdd,Nat.reduceSub,Nat.reduceMul,Nat.reduceLT,Nat.reduceEqDiff,reduceCtorEq,Nat.reduceLeDiff]) | (refine cm ?_ ?_<;>intro)))
  refine e8 (fun p:Nat×Int=>⟨N [(1,.v (enc m)),(2,.v (.int .i64 ((d:Int)+1))),(3,.v (.cU t.enc.cells)),(7,.v (enc p.2)),(15,.v (enc t.args.length)),(16,.v (enc p.1))],[]⟩)
   (fun p=>p.1≤t.args.length∧ki (kT m d) m (t.args.drop p.1) p.2=kT m (d+1) t∧1≤p.2∧p.2≤q3 m d+m) (fun p=>t.args.length - p.1) (0,1) ⟨Nat.zero_le _,rfl,Int.le_refl _,by have:=AZ hm d;simp only;omega⟩ (by (try simp (disch:=first | assumption | omega) only [go_sem,Int.reduceLE,Int.reduceLT,Int.reduceToNat,Int.reduceAdd,Int.reduceSub,↓reduceIte,Nat.reduceBEq,Nat.reduceAdd,Nat.reduceSub,Nat.reduceMul,Nat.reduceLT,Nat.reduceEqDiff,reduceCtorEq,Nat.reduceLeDiff])<;>(first | rfl | (simp (disch:=first | assumption | omega) only [b7,List.foldr_cons,List.foldr_nil,Env.ins,dB,dC,dD,dE,dF,dG,dH,dI,aj.cP,List.length_map,Int.natCast_add,Int.natCast_one,Int.natCast_zero,List.take_zero,dJ,List.map_append,List.map_cons,List.map_nil,dN,dO,Int.reduceLE,Int.reduceLT,Int.reduceToNat,Int.reduceAdd,Int.reduceSub,↓reduceIte,Nat.reduceBEq,Nat.reduceAdd,Nat.reduceSub,Nat.reduceMul,Nat.reduceLT,Nat.reduceEqDiff,reduceCtorEq,Nat.reduceLeDiff];try rfl))) ?_
  rintro ⟨i,n⟩ ⟨i1,i2,i3,i4⟩
  simp only at i1 i2 i3 i4
  have rk:=AZ hm d
  by_cases h:i<t.args.length
  ·by_cases a1:n>m
   ·rw [apf h a1] at i2
    (repeat' (first | (simp (disch:=first | assumption | omega) only [go_sem,uC,uB,i2,Int.reduceLE,Int.reduceLT,Int.reduceToNat,Int.reduceAdd,Int.reduceSub,↓reduceIte,Nat.reduceBEq,Nat.reduceAdd,Nat.reduceSub,Nat.reduceMul,Nat.reduceLT,Nat.reduceEqDiff,reduceCtorEq,Nat.reduceLeDiff]) | (refine cm ?_ ?_<;>intro)))
    all_goals rfl
   ·rw [ape h a1] at i2
    have ark:=Kv hm d t.args[i]!
    have af:=fun {K:AV→Prop} {tg:bA K} (cC:i<t.args.length)=>Us (D:=iA) (K:=K) (tg:=tg) (x1:=t.args[i]!.enc) (x2:=.int .i64 m) (x3:=.int .i64 (d:Int)) (by rw [Int.toNat_natCast];exact ih _ (by omega))
    simp only [Int.toNat_natCast] at af
    (repeat' (first | (simp (disch:=first | assumption | omega) only [go_sem,uC,uB,oZ,af,Int.reduceLE,Int.reduceLT,Int.reduceToNat,Int.reduceAdd,Int.reduceSub,↓reduceIte,Nat.reduceBEq,Nat.reduceAdd,Nat.reduceSub,Nat.reduceMul,Nat.reduceLT,Nat.reduceEqDiff,reduceCtorEq,Nat.reduceLeDiff]) | (refine cm ?_ ?_<;>intro)))
    exact ⟨(i+1,_),⟨by simp only;omega,i2,by simp only;omega,by simp only;omega⟩,by simp only;omega,by (first | rfl | (simp (disch:=first | assumption | omega) only [b7,List.foldr_cons,List.foldr_nil,Env.ins,dB,dC,dD,dE,dF,dG,dH,dI,aj.cP,List.length_map,Int.natCast_add,Int.natCast_one,Int.natCast_zero,List.take_zero,dJ,List.map_append,List.map_cons,List.map_nil,dN,dO,Int.reduceLE,Int.reduceLT,Int.reduceToNat,Int.reduceAdd,Int.reduceSub,↓reduceIte,Nat.reduceBEq,Nat.reduceAdd,Nat.reduceSub,Nat.reduceMul,Nat.reduceLT,Nat.reduceEqDiff,reduceCtorEq,Nat.reduceLeDiff];try rfl))⟩
  ·rw [apg (by omega)] at i2
   (repeat' (first | (simp (disch:=first | assumption | omega) only [go_sem,uC,uB,i2,Int.reduceLE,Int.reduceLT,Int.reduceToNat,Int.reduceAdd,Int.reduceSub,↓reduceIte,Nat.reduceBEq,Nat.reduceAdd,Nat.reduceSub,Nat.reduceMul,Nat.reduceLT,Nat.reduceEqDiff,reduceCtorEq,Nat.reduceLeDiff]) | (refine cm ?_ ?_<;>intro)))
   all_goals rfl
theorem apl {D:cv} [eI D iA] {x1 x2 x3:AV} {t:aj} {m:Int} {d:Int} [cj x1 t] [cj x2 m] [cj x3 d] (h:0≤m∧m≤1000∧0≤d∧d≤m) {K:AV→Prop} {tg:bA K}:gy Tryz.prog bq D 72 [x1,x2,x3] K tg=K (enc (kT m d.toNat t)):=Us (by have aa:=apk ⟨h.1,h.2.1⟩ d.toNat t (by omega);rwa [Int.toNat_of_nonneg h.2.2.1] at aa)
attribute [go_sem ↓ 2000] apl
theorem apm {m:Int} (t:aj) (hm:0≤m∧m≤1000):a4 Tryz.prog bq 35 [enc t,enc m] (enc (nP m t)):=by
 refine a4.intro (D:=iA) ald (by simp only [List.all_cons,List.all_nil,Enc.arg,Bool.and_self]) (by first | rfl | exact Enc.res _) ?_
 unfold P1
 simp (disch:=first | assumption | omega) only [go_sem,Int.reduceLE,Int.reduceLT,Int.reduceToNat,Int.reduceAdd,Int.reduceSub,↓reduceIte,Nat.reduceBEq,Nat.reduceAdd,Nat.reduceSub,Nat.reduceMul,Nat.reduceLT,Nat.reduceEqDiff,reduceCtorEq,Nat.reduceLeDiff]
 (repeat' (first | (simp (disch:=first | assumption | omega) only [go_sem,P2,Int.reduceLE,Int.reduceLT,Int.reduceToNat,Int.reduceAdd,Int.reduceSub,↓reduceIte,Nat.reduceBEq,Nat.reduceAdd,Nat.reduceSub,Nat.reduceMul,Nat.reduceLT,Nat.reduceEqDiff,reduceCtorEq,Nat.reduceLeDiff]) | (refine cm ?_ ?_<;>intro)))
 all_goals first | rfl | simp_all [nP]
theorem apn {D:cv} [eI D iA] {x1 x2:AV} {t:aj} {m:Int} [cj x1 t] [cj x2 m] (h:0≤m∧m≤1000) {K:AV→Prop} {tg:bA K}:gy Tryz.prog bq D 35 [x1,x2] K tg=K (enc (nP m t)):=api (apm t h)
attribute [go_sem ↓ 2000] apn
theorem apo {m:Int} (l:List aj) (hm:0≤m∧m≤1000):a4 Tryz.prog bq 10 [enc l,enc m] (enc (kU m l)):=by
 refine a4.Kd fun ah=>?_
 obtain ⟨ah,_⟩:=ah
 have nO:M=1099511627776:=rfl
 by_cases Ut:(l.length:Int)≤m
 ·refine a4.intro (D:=iA) QH (by simp only [List.all_cons,List.all_nil,Enc.arg,Bool.and_self]) (by first | rfl | exact Enc.res _) ?_
  unfold FL
  simp (disch:=first | assumption | omega) only [go_sem,Int.reduceLE,Int.reduceLT,Int.reduceToNat,Int.reduceAdd,Int.reduceSub,↓reduceIte,Nat.reduceBEq,Nat.reduceAdd,Nat.reduceSub,Nat.reduceMul,Nat.reduceLT,Nat.reduceEqDiff,reduceCtorEq,Nat.reduceLeDiff]
  (repeat' (first | (simp (disch:=first | assumption | omega) only [go_sem,uz,uy,Int.reduceLE,Int.reduceLT,Int.reduceToNat,Int.reduceAdd,Int.reduceSub,↓reduceIte,Nat.reduceBEq,Nat.reduceAdd,Nat.reduceSub,Nat.reduceMul,Nat.reduceLT,Nat.reduceEqDiff,reduceCtorEq,Nat.reduceLeDiff]) | (refine cm ?_ ?_<;>intro)))
  refine e8 (fun i:Nat=>⟨N [(0,.v (enc l)),(1,.v (enc m)),(11,.v (enc l.length)),(12,.v (enc i))],[]⟩)
   (fun i=>i≤l.length∧kU m l=(l.drop i).all (nP m)) (fun i=>l.length - i) 0 ⟨Nat.zero_le _,by rw [kU,decide_eq_true Ut,Bool.true_and];rfl⟩ (by (try simp (disch:=first | assumption | omega) only [go_sem,Int.reduceLE,Int.reduceLT,Int.reduceToNat,Int.reduceAdd,Int.reduceSub,↓reduceIte,Nat.reduceBEq,Nat.reduceAdd,Nat.reduceSub,Nat.reduceMul,Nat.reduceLT,Nat.reduceEqDiff,reduceCtorEq,Nat.reduceLeDiff])<;>(first | rfl | (simp (disch:=first | assumption | omega) only [b7,List.foldr_cons,List.foldr_nil,Env.ins,dB,dC,dD,dE,dF,dG,dH,dI,aj.cP,List.length_map,Int.natCast_add,Int.natCast_one,Int.natCast_zero,List.take_zero,dJ,List.map_append,List.map_cons,List.map_nil,dN,dO,Int.reduceLE,Int.reduceLT,Int.reduceToNat,Int.reduceAdd,Int.reduceSub,↓reduceIte,Nat.reduceBEq,Nat.reduceAdd,Nat.reduceSub,Nat.reduceMul,Nat.reduceLT,Nat.reduceEqDiff,reduceCtorEq,Nat.reduceLeDiff];try rfl))) ?_
  rintro i ⟨i1,i2⟩
  by_cases h:i<l.length
  ·rw [Kc h,List.all_cons] at i2
   cases aS:nP m l[i]! with
   | false =>
    rw [aS,Bool.false_and] at i2
    (repeat' (first | (simp (disch:=first | assumption | omega) only [go_sem,uz,uy,aS,i2,Int.reduceLE,Int.reduceLT,Int.reduceToNat,Int.reduceAdd,Int.reduceSub,↓reduceIte,Nat.reduceBEq,Nat.reduceAdd,Nat.reduceSub,Nat.reduceMul,Nat.reduceLT,Nat.reduceEqDiff,reduceCtorEq,Nat.reduceLeDiff]) | (refine cm ?_ ?_<;>intro)))
    all_goals rfl
   | true =>
    rw [aS,Bool.true_and] at i2
    (repeat' (first | (simp (disch:=first | assumption | omega) only [go_sem,uz,uy,aS,Int.reduceLE,Int.reduceLT,Int.reduceToNat,Int.reduceAdd,Int.reduceSub,↓reduceIte,Nat.reduceBEq,Nat.reduceAdd,Nat.reduceSub,Nat.reduceMul,Nat.reduceLT,Nat.reduceEqDiff,reduceCtorEq,Nat.reduceLeDiff]) | (refine cm ?_ ?_<;>intro)))
    exact ⟨i+1,⟨by omega,i2⟩,by omega,by (first | rfl | (simp (disch:=first | assumption | omega) only [b7,List.foldr_cons,List.foldr_nil,Env.ins,dB,dC,dD,dE,dF,dG,dH,dI,aj.cP,List.length_map,Int.natCast_add,Int.natCast_one,Int.natCast_zero,List.take_zero,dJ,List.map_append,List.map_cons,List.map_nil,dN,dO,Int.reduceLE,Int.reduceLT,Int.reduceToNat,Int.reduceAdd,Int.reduceSub,↓reduceIte,Nat.reduceBEq,Nat.reduceAdd,Nat.reduceSub,Nat.reduceMul,Nat.reduceLT,Nat.reduceEqDiff,reduceCtorEq,Nat.reduceLeDiff];try rfl))⟩
  ·rw [List.drop_eq_nil_of_le (by omega)] at i2
   (repeat' (first | (simp (disch:=first | assumption | omega) only [go_sem,uz,uy,i2,Int.reduceLE,Int.reduceLT,Int.reduceToNat,Int.reduceAdd,Int.reduceSub,↓reduceIte,Nat.reduceBEq,Nat.reduceAdd,Nat.reduceSub,Nat.reduceMul,Nat.reduceLT,Nat.reduceEqDiff,reduceCtorEq,Nat.reduceLeDiff]) | (refine cm ?_ ?_<;>intro)))
   all_goals rfl
 ·have aP:kU m l=false:=by rw [kU,decide_eq_false Ut,Bool.false_and]
  rw [aP]
  refine a4.intro (D:=iA) QH (by simp only [List.all_cons,List.all_nil,Enc.arg,Bool.and_self]) (by first | rfl | exact Enc.res _) ?_
  unfold FL
  simp (disch:=first | assumption | omega) only [go_sem,Int.reduceLE,Int.reduceLT,Int.reduceToNat,Int.reduceAdd,Int.reduceSub,↓reduceIte,Nat.reduceBEq,Nat.reduceAdd,Nat.reduceSub,Nat.reduceMul,Nat.reduceLT,Nat.reduceEqDiff,reduceCtorEq,Nat.reduceLeDiff]
  (repeat' (first | (simp (disch:=first | assumption | omega) only [go_sem,uz,uy,Int.reduceLE,Int.reduceLT,Int.reduceToNat,Int.reduceAdd,Int.reduceSub,↓reduceIte,Nat.reduceBEq,Nat.reduceAdd,Nat.reduceSub,Nat.reduceMul,Nat.reduceLT,Nat.reduceEqDiff,reduceCtorEq,Nat.reduceLeDiff]) | (refine cm ?_ ?_<;>intro)))
  all_goals rfl
theorem apq {D:cv} [eI D iA] {x1 x2:AV} {l:List aj} {m:Int} [cj x1 l] [cj x2 m] (h:0≤m∧m≤1000) {K:AV→Prop} {tg:bA K}:gy Tryz.prog bq D 10 [x1,x2] K tg=K (enc (kU m l)):=apj (apo l h)
attribute [go_sem ↓ 2000] apq
end AM
