/- prove.copies, prove.Given; plain.Small, SmallTerms. Conditions: none. -/
import Derived.Test.YtjpfdkecffnlbaaGreatDoorW7
import Derived.Test.YtjpfdkecffnlbaaGreatDoorAm14
set_option maxRecDepth 100000
set_option maxHeartbeats 4000000
set_option linter.unusedSimpArgs false
set_option linter.unusedVariables false
namespace AM
open Go Go.Proofs
open Enc (enc)
noncomputable def Kt:List qY:=[(26,kf fun (l:List aj)=>enc (l)),
 (11,u1 fun (s:List aj) (j:List aj) (r:List aj)=>enc (g9 s j r))]
noncomputable def ly:cv:=nI oG (lv Kt)
instance arh {D:cv} [h:eI D ly]:eI D oG:=h.xu
theorem Ul:kQ ly ([26,11]++([36]++([54]++[81,126,161,132,80,51,75,122,124,34,9,76,66,157,150,158,37,12]))):=kQ.or Ug (u0 Kt)
theorem Um {f:Nat} {F:List AV→Option AV} (h:∀xs,lv Kt f xs=F xs) (ab:(([36]++([54]++[81,126,161,132,80,51,75,122,124,34,9,76,66,157,150,158,37,12])):List Nat).contains f=false:=by rfl):∀xs,ly f xs=F xs:=fun xs=>by rw [←h];exact AJ Ug ab
theorem Un {D:cv} [eI D ly] {x1:AV} {l:List aj} [cj x1 l] {K:AV→Prop} {tg:bA K} (h:a4 Tryz.prog bq 26 [enc l] (enc (l))):gy Tryz.prog bq D 26 [x1] K tg=K (enc (l)):=J9 (D':=ly) (F:=fun (l:List aj)=>enc (l)) (Um fun _=>rfl) h
theorem ao4 {D:cv} [eI D ly] {x1 x2 x3:AV} {s:List aj} {j:List aj} {r:List aj} [cj x1 s] [cj x2 j] [cj x3 r] {K:AV→Prop} {tg:bA K} (h:a4 Tryz.prog bq 11 [enc s,enc j,enc r] (enc (g9 s j r))):gy Tryz.prog bq D 11 [x1,x2,x3] K tg=K (enc (g9 s j r)):=Ka (D':=ly) (F:=fun (s:List aj) (j:List aj) (r:List aj)=>enc (g9 s j r)) (Um fun _=>rfl) h
theorem Uo (l:List aj) (aa:l.length≤100000) (ih:∀t∈l,a4 Tryz.prog bq 26 [enc t.args] (enc t.args)):a4 Tryz.prog bq 26 [enc l] (enc l):=by
 refine a4.sl (D:=ly) QT (by simp only [List.all_cons,List.all_nil,Enc.arg,Bool.and_self]) rfl (Enc.ux _) ?_
 unfold Ga
 have nO:M=1099511627776:=rfl
 (repeat' (first | (simp (disch:=first | assumption | omega) only [go_sem,xg,z5,List.nil_append,Int.reduceLE,Int.reduceLT,Int.reduceToNat,Int.reduceAdd,Int.reduceSub,↓reduceIte,Nat.reduceBEq,Nat.reduceAdd,Nat.reduceSub,Nat.reduceMul,Nat.reduceLT,Nat.reduceEqDiff,reduceCtorEq,Nat.reduceLeDiff]) | (refine cm ?_ ?_<;>intro)))
 refine e8 (fun i:Nat=>⟨N [(3,.v (.bI 0 0 l.length 2)),(9,.v (enc l)),(10,.v (enc l.length)),(11,.v (enc i))],[.buf 38 (l6 l i),.dead]⟩) (fun i=>i≤l.length) (fun i=>l.length - i) 0 (Nat.zero_le _) (by (try simp (disch:=first | assumption | omega) only [go_sem,Int.reduceLE,Int.reduceLT,Int.reduceToNat,Int.reduceAdd,Int.reduceSub,↓reduceIte,Nat.reduceBEq,Nat.reduceAdd,Nat.reduceSub,Nat.reduceMul,Nat.reduceLT,Nat.reduceEqDiff,reduceCtorEq,Nat.reduceLeDiff])<;>(first | rfl | (simp (disch:=first | assumption | omega) only [b7,List.foldr_cons,List.foldr_nil,Env.ins,dB,dC,dD,dE,dF,dG,dH,dI,aj.cP,List.length_map,Int.natCast_add,Int.natCast_one,Int.natCast_zero,List.take_zero,dJ,List.map_append,List.map_cons,List.map_nil,dN,dO,aoT,Int.reduceLE,Int.reduceLT,Int.reduceToNat,Int.reduceAdd,Int.reduceSub,↓reduceIte,Nat.reduceBEq,Nat.reduceAdd,Nat.reduceSub,Nat.reduceMul,Nat.reduceLT,Nat.reduceEqDiff,reduceCtorEq,Nat.reduceLeDiff];try rfl))) ?_
 intro i av
 by_cases h:i<l.length
 ·have af:=fun {K:AV→Prop} {tg:bA K} (cC:i<l.length)=>Un (D:=ly) (K:=K) (tg:=tg) (x1:=.list none 2 (l[i]!.args.map aj.enc)) (ih l[i]! (To cC))
  (repeat' (first | (simp (disch:=first | assumption | omega) only [go_sem,xg,z5,af,List.getElem?_cons_zero,List.set_cons_zero,Int.reduceLE,Int.reduceLT,Int.reduceToNat,Int.reduceAdd,Int.reduceSub,↓reduceIte,Nat.reduceBEq,Nat.reduceAdd,Nat.reduceSub,Nat.reduceMul,Nat.reduceLT,Nat.reduceEqDiff,reduceCtorEq,Nat.reduceLeDiff]) | (refine cm ?_ ?_<;>intro)))
  exact ⟨i+1,by omega,by omega,by (first | rfl | (simp (disch:=first | assumption | omega) only [b7,List.foldr_cons,List.foldr_nil,Env.ins,dB,dC,dD,dE,dF,dG,dH,dI,aj.cP,List.length_map,Int.natCast_add,Int.natCast_one,Int.natCast_zero,List.take_zero,dJ,List.map_append,List.map_cons,List.map_nil,dN,dO,Int.reduceLE,Int.reduceLT,Int.reduceToNat,Int.reduceAdd,Int.reduceSub,↓reduceIte,Nat.reduceBEq,Nat.reduceAdd,Nat.reduceSub,Nat.reduceMul,Nat.reduceLT,Nat.reduceEqDiff,reduceCtorEq,Nat.reduceLeDiff];try rfl))⟩
 ·obtain rfl:i=l.length:=by omega
  (repeat' (first | (simp (disch:=first | assumption | omega) only [go_sem,xg,z5,List.getElem?_cons_zero,List.set_cons_zero,Int.reduceLE,Int.reduceLT,Int.reduceToNat,Int.reduceAdd,Int.reduceSub,↓reduceIte,Nat.reduceBEq,Nat.reduceAdd,Nat.reduceSub,Nat.reduceMul,Nat.reduceLT,Nat.reduceEqDiff,reduceCtorEq,Nat.reduceLeDiff]) | (refine cm ?_ ?_<;>intro)))
  exact ⟨_,rfl,eZ.disown _ _ _⟩
theorem ao5 (l:List aj) (aa:l.length≤100000) (al:hq l≤100000):a4 Tryz.prog bq 26 [enc l] (enc l):=by
 have key:∀t:aj,pT t≤100000→a4 Tryz.prog bq 26 [enc t.args] (enc t.args):=aj.ind fun t ih h=>by
  rw [Ui] at h
  exact Uo t.args (by omega) fun u hu=>ih u hu (by have:=u6 hu;omega)
 exact Uo l aa fun t aF=>key t (by have:=u6 aF;omega)
theorem ao6 {D:cv} [eI D ly] {x1:AV} {l:List aj} [cj x1 l] (h:l.length≤100000∧hq l≤100000) {K:AV→Prop} {tg:bA K}:gy Tryz.prog bq D 26 [x1] K tg=K (enc (l)):=Un (ao5 l h.1 h.2)
attribute [go_sem ↓ 2000] ao6
theorem ao7 {s j r:List aj} (aS:s.length≤1000∧hq s≤1000) (a6:j.length≤1000∧hq j≤1000) (aA:r.length≤1000∧hq r≤1000):(g9 s j r).length≤100000∧hq (g9 s j r)≤100000:=by
 rw [Uk]
 refine ⟨?_,AX fun t aF=>?_⟩
 ·have:=aox (s.map gx++List.zipWith fs r j)
  rw [List.length_append,List.length_map,List.length_zipWith] at this
  omega
 ·rw [T8,List.mem_append] at aF
  rcases aF with aF | aF
  ·obtain ⟨f,aP,rfl⟩:=List.mem_map.1 aF
   have:=u6 aP
   simp only [gx,pT,hq,List.length_cons,List.length_nil];omega
  ·obtain ⟨k,ab,rfl⟩:=List.getElem_of_mem aF
   rw [List.length_zipWith] at ab
   rw [List.getElem_zipWith]
   have R:=u6 (List.getElem_mem (l:=r) (n:=k) (by omega))
   have aa:=u6 (List.getElem_mem (l:=j) (n:=k) (by omega))
   simp only [fs,pT,hq,List.length_cons,List.length_nil];omega
theorem ao8 (s j r:List aj) (aS:s.length≤1000∧hq s≤1000) (a6:j.length≤1000∧hq j≤1000) (aA:r.length≤1000∧hq r≤1000):a4 Tryz.prog bq 11 [enc s,enc j,enc r] (enc (g9 s j r)):=by
 have nO:M=1099511627776:=rfl
 obtain ⟨A,dk⟩:∃A,A=s.map gx:=⟨_,rfl⟩
 obtain ⟨Z,Ku⟩:∃Z,Z=List.zipWith fs r j:=⟨_,rfl⟩
 have ari:A.length=s.length:=by rw [dk,List.length_map]
 have ao9:Z.length=min r.length j.length:=by rw [Ku,List.length_zipWith]
 have apa:∀{i:Nat},i<s.length→A[i]! = gx s[i]!:=fun {i} h=>by rw [dk,u2];simp [h]
 have apb:∀{i:Nat},i<Z.length→Z[i]! = fs r[i]! j[i]!:=fun {i} h=>by rw [Ku];exact ao3 (by omega) (by omega)
 refine a4.sl (D:=ly) JD (by simp only [List.all_cons,List.all_nil,Enc.arg,Bool.and_self]) (by first | rfl | exact Enc.res _) (by exact Enc.ux _) ?_
 unfold z4
 simp (disch:=first | assumption | omega) only [go_sem,Int.reduceLE,Int.reduceLT,Int.reduceToNat,Int.reduceAdd,Int.reduceSub,↓reduceIte,Nat.reduceBEq,Nat.reduceAdd,Nat.reduceSub,Nat.reduceMul,Nat.reduceLT,Nat.reduceEqDiff,reduceCtorEq,Nat.reduceLeDiff]
 refine e8 (fun i:Nat=>⟨N [(1,.v (enc j)),(2,.v (enc r)),(7,.v (.list (some 38) 2 ((A.take i).map aj.enc))),(11,.v (enc s)),(12,.v (enc s.length)),(13,.v (enc i))],[]⟩) (fun i=>i≤s.length) (fun i=>s.length - i) 0 (Nat.zero_le _) (by (try simp (disch:=first | assumption | omega) only [go_sem,Int.reduceLE,Int.reduceLT,Int.reduceToNat,Int.reduceAdd,Int.reduceSub,↓reduceIte,Nat.reduceBEq,Nat.reduceAdd,Nat.reduceSub,Nat.reduceMul,Nat.reduceLT,Nat.reduceEqDiff,reduceCtorEq,Nat.reduceLeDiff])<;>(first | rfl | (simp (disch:=first | assumption | omega) only [b7,List.foldr_cons,List.foldr_nil,Env.ins,dB,dC,dD,dE,dF,dG,dH,dI,aj.cP,List.length_map,Int.natCast_add,Int.natCast_one,Int.natCast_zero,List.take_zero,dJ,List.map_append,List.map_cons,List.map_nil,dN,dO,Int.reduceLE,Int.reduceLT,Int.reduceToNat,Int.reduceAdd,Int.reduceSub,↓reduceIte,Nat.reduceBEq,Nat.reduceAdd,Nat.reduceSub,Nat.reduceMul,Nat.reduceLT,Nat.reduceEqDiff,reduceCtorEq,Nat.reduceLeDiff];try rfl))) ?_
 intro i av
 by_cases h:i<s.length
 ·have aK:=apa h
  have aN:(A.take i).length=i:=by rw [List.length_take];omega
  (repeat' (first | (simp (disch:=first | assumption | omega) only [go_sem,sm,xd,xe,aN,Int.reduceLE,Int.reduceLT,Int.reduceToNat,Int.reduceAdd,Int.reduceSub,↓reduceIte,Nat.reduceBEq,Nat.reduceAdd,Nat.reduceSub,Nat.reduceMul,Nat.reduceLT,Nat.reduceEqDiff,reduceCtorEq,Nat.reduceLeDiff]) | (refine cm ?_ ?_<;>intro)))
  exact ⟨i+1,by omega,by omega,by (first | rfl | (simp (disch:=first | assumption | omega) only [b7,List.foldr_cons,List.foldr_nil,Env.ins,dB,dC,dD,dE,dF,dG,dH,dI,aj.cP,List.length_map,Int.natCast_add,Int.natCast_one,Int.natCast_zero,List.take_zero,dJ,List.map_append,List.map_cons,List.map_nil,dN,dO,aK,ao1,Int.reduceLE,Int.reduceLT,Int.reduceToNat,Int.reduceAdd,Int.reduceSub,↓reduceIte,Nat.reduceBEq,Nat.reduceAdd,Nat.reduceSub,Nat.reduceMul,Nat.reduceLT,Nat.reduceEqDiff,reduceCtorEq,Nat.reduceLeDiff];try rfl))⟩
 have AY:A.take i=A:=List.take_of_length_le (by omega)
 (repeat' (first | (simp (disch:=first | assumption | omega) only [go_sem,sm,xd,xe,AY,Int.reduceLE,Int.reduceLT,Int.reduceToNat,Int.reduceAdd,Int.reduceSub,↓reduceIte,Nat.reduceBEq,Nat.reduceAdd,Nat.reduceSub,Nat.reduceMul,Nat.reduceLT,Nat.reduceEqDiff,reduceCtorEq,Nat.reduceLeDiff]) | (refine cm ?_ ?_<;>intro)))
 refine e8 (fun i:Nat=>⟨N [(1,.v (enc j)),(2,.v (enc r)),(7,.v (.list (some 38) 2 ((A++Z.take i).map aj.enc))),(28,.v (enc Z.length)),(29,.v (enc i))],[]⟩) (fun i=>i≤Z.length) (fun i=>Z.length - i) 0 (Nat.zero_le _) (by (try simp (disch:=first | assumption | omega) only [go_sem,AY,Int.reduceLE,Int.reduceLT,Int.reduceToNat,Int.reduceAdd,Int.reduceSub,↓reduceIte,Nat.reduceBEq,Nat.reduceAdd,Nat.reduceSub,Nat.reduceMul,Nat.reduceLT,Nat.reduceEqDiff,reduceCtorEq,Nat.reduceLeDiff])<;>(first | rfl | (simp (disch:=first | assumption | omega) only [b7,List.foldr_cons,List.foldr_nil,Env.ins,dB,dC,dD,dE,dF,dG,dH,dI,aj.cP,List.length_map,Int.natCast_add,Int.natCast_one,Int.natCast_zero,List.take_zero,dJ,List.map_append,List.map_cons,List.map_nil,dN,dO,ao9,AY,List.append_nil,Nat.min_comm,Int.reduceLE,Int.reduceLT,Int.reduceToNat,Int.reduceAdd,Int.reduceSub,↓reduceIte,Nat.reduceBEq,Nat.reduceAdd,Nat.reduceSub,Nat.reduceMul,Nat.reduceLT,Nat.reduceEqDiff,reduceCtorEq,Nat.reduceLeDiff];try rfl))) ?_
 clear h av AY
 intro k ab
 by_cases h:k<Z.length
 ·have aK:=apb h
  have aN:(A++Z.take k).length=s.length+k:=by rw [List.length_append,List.length_take];omega
  (repeat' (first | (simp (disch:=first | assumption | omega) only [go_sem,sm,xd,xe,aN,Int.reduceLE,Int.reduceLT,Int.reduceToNat,Int.reduceAdd,Int.reduceSub,↓reduceIte,Nat.reduceBEq,Nat.reduceAdd,Nat.reduceSub,Nat.reduceMul,Nat.reduceLT,Nat.reduceEqDiff,reduceCtorEq,Nat.reduceLeDiff]) | (refine cm ?_ ?_<;>intro)))
  exact ⟨k+1,by omega,by omega,by (first | rfl | (simp (disch:=first | assumption | omega) only [b7,List.foldr_cons,List.foldr_nil,Env.ins,dB,dC,dD,dE,dF,dG,dH,dI,aj.cP,List.length_map,Int.natCast_add,Int.natCast_one,Int.natCast_zero,List.take_zero,dJ,List.map_append,List.map_cons,List.map_nil,dN,dO,aK,ao2,←List.append_assoc,Int.reduceLE,Int.reduceLT,Int.reduceToNat,Int.reduceAdd,Int.reduceSub,↓reduceIte,Nat.reduceBEq,Nat.reduceAdd,Nat.reduceSub,Nat.reduceMul,Nat.reduceLT,Nat.reduceEqDiff,reduceCtorEq,Nat.reduceLeDiff];try rfl))⟩
 ·have apc:A++Z.take k=s.map gx++List.zipWith fs r j:=by rw [List.take_of_length_le (by omega),dk,Ku]
  have af:=ao7 aS a6 aA
  have o7:=(Uk s j r).symm
  (repeat' (first | (simp (disch:=first | assumption | omega) only [go_sem,sm,xd,xe,apc,o7,Int.reduceLE,Int.reduceLT,Int.reduceToNat,Int.reduceAdd,Int.reduceSub,↓reduceIte,Nat.reduceBEq,Nat.reduceAdd,Nat.reduceSub,Nat.reduceMul,Nat.reduceLT,Nat.reduceEqDiff,reduceCtorEq,Nat.reduceLeDiff]) | (refine cm ?_ ?_<;>intro)))
  exact ⟨_,rfl,eZ.refl _⟩
theorem apd {D:cv} [eI D ly] {x1 x2 x3:AV} {s:List aj} {j:List aj} {r:List aj} [cj x1 s] [cj x2 j] [cj x3 r] (aS:s.length≤1000∧hq s≤1000) (a6:j.length≤1000∧hq j≤1000) (aA:r.length≤1000∧hq r≤1000) {K:AV→Prop} {tg:bA K}:gy Tryz.prog bq D 11 [x1,x2,x3] K tg=K (enc (g9 s j r)):=ao4 (ao8 s j r aS a6 aA)
attribute [go_sem ↓ 2000] apd
end AM
