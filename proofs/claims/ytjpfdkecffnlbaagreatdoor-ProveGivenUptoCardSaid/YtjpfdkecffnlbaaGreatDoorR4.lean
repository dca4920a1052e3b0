/- gameplayerref15.Given. Conditions: lists of at most 1000 terms. -/
import Derived.Test.YtjpfdkecffnlbaaGreatDoorR3
set_option maxRecDepth 100000
set_option maxHeartbeats 4000000
set_option linter.unusedSimpArgs false
set_option linter.unusedVariables false
namespace AM
open Go Go.Proofs
def J2 (f:Nat) (xs:List AV):Option AV :=
 if f=37 then (match xs with | [x,y]=>(match ia x,fV y with | some l,some t=>some (cN (ie l t)) | _,_=>none) | _=>none)
 else if f=12 then (match xs with | [x,y,z]=>(match ia x,ia y,ia z with | some l,some m,some n=>some (cN (g9 l m n)) | _,_,_=>none) | _=>none)
 else eB f xs
theorem AA {x y:AV} {l:List aj} {t:aj} (ai:ia x=some l) (aT:fV y=some t):J2 37 [x,y]=some (cN (ie l t)):=by simp [J2,ai,aT]
theorem AB {x y:AV} {l:List aj} {t:aj} (ai:ia x=some l) (aT:fV y=some t) (aN:l.length<1000000):a4 Tryz.prog bq 37 [x,y] (cN (ie l t)) :=
 (amm l t aN).args (.cons (eZ.ia ai) (.cons (eZ.fV aT) .nil))
def kP (l:List aj) (n:Nat):AV:=if n=0 then .aH 2 else cN l
theorem amn (state eh ep:List aj) (R:state.length≤1000) (aa:eh.length≤1000) (al:ep.length≤1000):a4 Tryz.prog bq 12 [cN state,cN eh,cN ep] (cN (g9 state eh ep)):=by
 refine a4.sl (D:=J2) alc rfl rfl (PU _) ?_
 simp only [cN]
 unfold P0
 simp only [go_sem,aV,aW,Int.reduceLE,Int.reduceLT,Int.reduceToNat,Int.reduceAdd,Int.reduceSub,↓reduceIte,Nat.reduceBEq,Nat.reduceAdd,Nat.reduceSub,Nat.reduceMul,Nat.reduceLT,Nat.reduceEqDiff,reduceCtorEq,Nat.reduceLeDiff]
 refine e8 (fun i:Nat=>⟨N [(0,.v (.list none 2 (bC state))),(1,.v (.list none 2 (bC eh))),(2,.v (.list none 2 (bC ep))),(7,.v (kP (dW [] ((state.take i).map gx)) i)),(8,.v (.int .i64 i))],[]⟩)
  (fun i=>i≤state.length) (fun i=>state.length - i) 0 (by omega) (by (try simp only [go_sem,aV,aW,Int.reduceLE,Int.reduceLT,Int.reduceToNat,Int.reduceAdd,Int.reduceSub,↓reduceIte,Nat.reduceBEq,Nat.reduceAdd,Nat.reduceSub,Nat.reduceMul,Nat.reduceLT,Nat.reduceEqDiff,reduceCtorEq,Nat.reduceLeDiff])<;>(simp only [b7,List.foldr_cons,List.foldr_nil,Env.ins,kP,Int.reduceLE,Int.reduceLT,Int.reduceToNat,Int.reduceAdd,Int.reduceSub,↓reduceIte,Nat.reduceBEq,Nat.reduceAdd,Nat.reduceSub,Nat.reduceMul,Nat.reduceLT,Nat.reduceEqDiff,reduceCtorEq,Nat.reduceLeDiff])) ?_
 intro i av
 by_cases h:i<state.length
 ·have aB:decide ((i:Int)<(state.length:Int))=true:=decide_eq_true (by omega)
  have bX:state[i]?=some state[i]:=List.getElem?_eq_getElem h
  have f1:(bC state)[i]?=some state[i].enc:=by rw [mF,bX];rfl
  have f5:IntKind.i64.wrap ((i:Int)+1)=((i+1:Nat):Int):=by rw [wrap64]<;>omega
  have f6:(0:Int)≤i:=by omega
  have f7:(i:Int)<state.length:=by omega
  have hlen:(dW [] ((state.take i).map gx)).length<1000000:=by
   have:=xn ((state.take i).map gx) []
   simp only [List.length_map,List.length_take,List.length_nil] at this
   omega
  have aS:dW [] ((state.take (i+1)).map gx)=ie (dW [] ((state.take i).map gx)) (gx state[i]):=by rw [uN bX,List.map_append,List.map_cons,List.map_nil,S1]
  have bN:kP (dW [] ((state.take (i+1)).map gx)) (i+1)=cN (dW [] ((state.take (i+1)).map gx)):=if_neg (by omega)
  generalize state[i]=x at *
  obtain ⟨l0,l1⟩:=x
  simp only [aj.enc] at f1
  have aw:fV (.agg [.str [116,114,117,101],.list none 2 [.agg [.str l0,.list none 2 (bC l1)]]])=some (gx (.mk l0 l1)):=by
   have:bC [.mk l0 l1]=[.agg [.str l0,.list none 2 (bC l1)]]:=by simp only [bC,aj.enc]
   rw [←this,PN];rfl
  by_cases a0:i=0
  ·have c3:kP (dW [] ((state.take i).map gx)) i=.aH 2:=if_pos a0
   have aZ:dW [] ((state.take i).map gx)=[]:=by rw [a0];rfl
   have q:=AA (x:=.aH 2) rfl aw
   have w:=AB (x:=.aH 2) rfl aw (by simp)
   rw [←aZ,←aS] at q w
   simp only [cN] at q w bN
   simp only [go_sem,aV,aW,aB,f1,f5,f6,f7,c3,q,w,ed,List.length_singleton,Nat.reduceLeDiff,Int.reduceLE,Int.reduceLT,Int.reduceToNat,Int.reduceAdd,Int.reduceSub,↓reduceIte,Nat.reduceBEq,Nat.reduceAdd,Nat.reduceSub,Nat.reduceMul,Nat.reduceLT,Nat.reduceEqDiff,reduceCtorEq,Nat.reduceLeDiff]
   exact ⟨i+1,by omega,by omega,by (simp only [b7,List.foldr_cons,List.foldr_nil,Env.ins,bN,Int.reduceLE,Int.reduceLT,Int.reduceToNat,Int.reduceAdd,Int.reduceSub,↓reduceIte,Nat.reduceBEq,Nat.reduceAdd,Nat.reduceSub,Nat.reduceMul,Nat.reduceLT,Nat.reduceEqDiff,reduceCtorEq,Nat.reduceLeDiff])⟩
  ·have c3:kP (dW [] ((state.take i).map gx)) i=.list none 2 (bC (dW [] ((state.take i).map gx))):=if_neg a0
   have q:=AA (sj (dW [] ((state.take i).map gx))) aw
   have w:=AB (sj (dW [] ((state.take i).map gx))) aw hlen
   rw [←aS] at q w
   simp only [cN] at q w bN
   simp only [go_sem,aV,aW,aB,f1,f5,f6,f7,c3,q,w,ed,Int.reduceLE,Int.reduceLT,Int.reduceToNat,Int.reduceAdd,Int.reduceSub,↓reduceIte,Nat.reduceBEq,Nat.reduceAdd,Nat.reduceSub,Nat.reduceMul,Nat.reduceLT,Nat.reduceEqDiff,reduceCtorEq,Nat.reduceLeDiff]
   exact ⟨i+1,by omega,by omega,by (simp only [b7,List.foldr_cons,List.foldr_nil,Env.ins,bN,Int.reduceLE,Int.reduceLT,Int.reduceToNat,Int.reduceAdd,Int.reduceSub,↓reduceIte,Nat.reduceBEq,Nat.reduceAdd,Nat.reduceSub,Nat.reduceMul,Nat.reduceLT,Nat.reduceEqDiff,reduceCtorEq,Nat.reduceLeDiff])⟩
 ·have aB:decide ((i:Int)<(state.length:Int))=false:=decide_eq_false (by omega)
  have iE:i=state.length:=by omega
  unfold PZ
  simp only [go_sem,aV,aW,aB,ed,Int.reduceLE,Int.reduceLT,Int.reduceToNat,Int.reduceAdd,Int.reduceSub,↓reduceIte,Nat.reduceBEq,Nat.reduceAdd,Nat.reduceSub,Nat.reduceMul,Nat.reduceLT,Nat.reduceEqDiff,reduceCtorEq,Nat.reduceLeDiff]
  let base:=dW [] (state.map gx)
  have pF:base=dW [] (state.map gx):=rfl
  have o3:kP (dW [] ((state.take i).map gx)) i=kP base state.length:=by rw [iE,List.take_length]
  refine e8 (fun k:Nat=>⟨N [(1,.v (.list none 2 (bC eh))),(2,.v (.list none 2 (bC ep))),(7,.v (kP (dW base ((List.zipWith fs ep eh).take k)) (state.length+k))),(9,.v (.int .i64 k))],[]⟩)
   (fun k=>k≤eh.length∧k≤ep.length) (fun k=>eh.length - k) 0 ⟨by omega,by omega⟩ (by (try simp only [go_sem,aV,aW,o3,Int.reduceLE,Int.reduceLT,Int.reduceToNat,Int.reduceAdd,Int.reduceSub,↓reduceIte,Nat.reduceBEq,Nat.reduceAdd,Nat.reduceSub,Nat.reduceMul,Nat.reduceLT,Nat.reduceEqDiff,reduceCtorEq,Nat.reduceLeDiff])<;>(first | rfl | (simp only [b7,List.foldr_cons,List.foldr_nil,Env.ins,List.take_zero,dW,List.foldl_nil,Int.reduceLE,Int.reduceLT,Int.reduceToNat,Int.reduceAdd,Int.reduceSub,↓reduceIte,Nat.reduceBEq,Nat.reduceAdd,Nat.reduceSub,Nat.reduceMul,Nat.reduceLT,Nat.reduceEqDiff,reduceCtorEq,Nat.reduceLeDiff]))) ?_
  rintro k ⟨fh,ga⟩
  have fin:(eh.length≤k∨ep.length≤k)→dW base ((List.zipWith fs ep eh).take k)=g9 state eh ep:=fun y0=>by
   rw [List.take_of_length_le (by rw [List.length_zipWith];omega),g9,dW,dW,pF,dW,←List.foldl_append]
  by_cases bX:k<eh.length
  ·have aB:decide ((k:Int)<(eh.length:Int))=true:=decide_eq_true (by omega)
   by_cases bQ:k<ep.length
   ·have aI:decide ((k:Int)<(ep.length:Int))=true:=decide_eq_true (by omega)
    have e6:eh[k]?=some eh[k]:=List.getElem?_eq_getElem bX
    have iQ:ep[k]?=some ep[k]:=List.getElem?_eq_getElem bQ
    have f1:(bC eh)[k]?=some eh[k].enc:=by rw [mF,e6];rfl
    have f2:(bC ep)[k]?=some ep[k].enc:=by rw [mF,iQ];rfl
    have f5:IntKind.i64.wrap ((k:Int)+1)=((k+1:Nat):Int):=by rw [wrap64]<;>omega
    have f6:(0:Int)≤k:=by omega
    have f7:(k:Int)<eh.length:=by omega
    have f8:(k:Int)<ep.length:=by omega
    have bx:(List.zipWith fs ep eh)[k]?=some (fs ep[k] eh[k]):=by rw [List.getElem?_zipWith,e6,iQ]
    have aS:dW base ((List.zipWith fs ep eh).take (k+1))=ie (dW base ((List.zipWith fs ep eh).take k)) (fs ep[k] eh[k]):=by rw [uN bx,S1]
    have hlen:(dW base ((List.zipWith fs ep eh).take k)).length<1000000:=by
     have an:=xn ((List.zipWith fs ep eh).take k) base
     have ar:=xn (state.map gx) []
     simp only [List.length_map,List.length_take,List.length_nil,List.length_zipWith] at an ar
     rw [pF] at an ⊢
     omega
    have bN:kP (dW base ((List.zipWith fs ep eh).take (k+1))) (state.length+(k+1))=cN (dW base ((List.zipWith fs ep eh).take (k+1))):=if_neg (by omega)
    generalize eh[k]=x at *
    generalize ep[k]=y at *
    obtain ⟨l0,l1⟩:=x
    obtain ⟨AD,AE⟩:=y
    simp only [aj.enc] at f1 f2
    have aw:fV (.agg [.str [100,111,101,115],.list none 2 [.agg [.str AD,.list none 2 (bC AE)],.agg [.str l0,.list none 2 (bC l1)]]])=some (fs (.mk AD AE) (.mk l0 l1)):=by
     have:bC [.mk AD AE,.mk l0 l1]=[.agg [.str AD,.list none 2 (bC AE)],.agg [.str l0,.list none 2 (bC l1)]]:=by simp only [bC,aj.enc]
     rw [←this,PN];rfl
    by_cases a0:state.length+k=0
    ·have c3:kP (dW base ((List.zipWith fs ep eh).take k)) (state.length+k)=.aH 2:=if_pos a0
     have aZ:dW base ((List.zipWith fs ep eh).take k)=[]:=by
      rw [show k=0 by omega,pF,List.eq_nil_of_length_eq_zero (show state.length=0 by omega)];rfl
     have q:=AA (x:=.aH 2) rfl aw
     have w:=AB (x:=.aH 2) rfl aw (by simp)
     rw [←aZ,←aS] at q w
     simp only [cN] at q w bN
     simp only [go_sem,aV,aW,aB,aI,f1,f2,f5,f6,f7,f8,c3,q,w,ed,List.length_singleton,Nat.reduceLeDiff,Int.reduceLE,Int.reduceLT,Int.reduceToNat,Int.reduceAdd,Int.reduceSub,↓reduceIte,Nat.reduceBEq,Nat.reduceAdd,Nat.reduceSub,Nat.reduceMul,Nat.reduceLT,Nat.reduceEqDiff,reduceCtorEq,Nat.reduceLeDiff]
     exact ⟨k+1,⟨by omega,by omega⟩,by omega,by (simp only [b7,List.foldr_cons,List.foldr_nil,Env.ins,bN,Int.reduceLE,Int.reduceLT,Int.reduceToNat,Int.reduceAdd,Int.reduceSub,↓reduceIte,Nat.reduceBEq,Nat.reduceAdd,Nat.reduceSub,Nat.reduceMul,Nat.reduceLT,Nat.reduceEqDiff,reduceCtorEq,Nat.reduceLeDiff])⟩
    ·have c3:kP (dW base ((List.zipWith fs ep eh).take k)) (state.length+k)=.list none 2 (bC (dW base ((List.zipWith fs ep eh).take k))):=if_neg a0
     have q:=AA (sj (dW base ((List.zipWith fs ep eh).take k))) aw
     have w:=AB (sj (dW base ((List.zipWith fs ep eh).take k))) aw hlen
     rw [←aS] at q w
     simp only [cN] at q w bN
     simp only [go_sem,aV,aW,aB,aI,f1,f2,f5,f6,f7,f8,c3,q,w,ed,List.length_cons,List.length_nil,Int.reduceLE,Int.reduceLT,Int.reduceToNat,Int.reduceAdd,Int.reduceSub,↓reduceIte,Nat.reduceBEq,Nat.reduceAdd,Nat.reduceSub,Nat.reduceMul,Nat.reduceLT,Nat.reduceEqDiff,reduceCtorEq,Nat.reduceLeDiff]
     exact ⟨k+1,⟨by omega,by omega⟩,by omega,by (simp only [b7,List.foldr_cons,List.foldr_nil,Env.ins,bN,Int.reduceLE,Int.reduceLT,Int.reduceToNat,Int.reduceAdd,Int.reduceSub,↓reduceIte,Nat.reduceBEq,Nat.reduceAdd,Nat.reduceSub,Nat.reduceMul,Nat.reduceLT,Nat.reduceEqDiff,reduceCtorEq,Nat.reduceLeDiff])⟩
   ·have aI:decide ((k:Int)<(ep.length:Int))=false:=decide_eq_false (by omega)
    unfold FM
    have aP:=fin (.inr (by omega))
    by_cases a0:state.length+k=0
    ·have c3:kP (dW base ((List.zipWith fs ep eh).take k)) (state.length+k)=.aH 2:=if_pos a0
     have aZ:g9 state eh ep=[]:=by
      rw [←aP,show k=0 by omega,pF,List.eq_nil_of_length_eq_zero (show state.length=0 by omega)];rfl
     simp only [go_sem,aV,aW,aB,aI,c3,ed,xf,Int.reduceLE,Int.reduceLT,Int.reduceToNat,Int.reduceAdd,Int.reduceSub,↓reduceIte,Nat.reduceBEq,Nat.reduceAdd,Nat.reduceSub,Nat.reduceMul,Nat.reduceLT,Nat.reduceEqDiff,reduceCtorEq,Nat.reduceLeDiff]
     exact ⟨_,rfl,by rw [aZ];simp only [bC];exact eZ.aH 2⟩
    ·have c3:kP (dW base ((List.zipWith fs ep eh).take k)) (state.length+k)=.list none 2 (bC (g9 state eh ep)):=by rw [aP];exact if_neg a0
     simp only [go_sem,aV,aW,aB,aI,c3,ed,xf,Int.reduceLE,Int.reduceLT,Int.reduceToNat,Int.reduceAdd,Int.reduceSub,↓reduceIte,Nat.reduceBEq,Nat.reduceAdd,Nat.reduceSub,Nat.reduceMul,Nat.reduceLT,Nat.reduceEqDiff,reduceCtorEq,Nat.reduceLeDiff]
     exact ⟨_,rfl,eZ.refl _⟩
  ·have aB:decide ((k:Int)<(eh.length:Int))=false:=decide_eq_false (by omega)
   unfold FM
   have aP:=fin (.inl (by omega))
   by_cases a0:state.length+k=0
   ·have c3:kP (dW base ((List.zipWith fs ep eh).take k)) (state.length+k)=.aH 2:=if_pos a0
    have aZ:g9 state eh ep=[]:=by
     rw [←aP,show k=0 by omega,pF,List.eq_nil_of_length_eq_zero (show state.length=0 by omega)];rfl
    simp only [go_sem,aV,aW,aB,c3,ed,xf,Int.reduceLE,Int.reduceLT,Int.reduceToNat,Int.reduceAdd,Int.reduceSub,↓reduceIte,Nat.reduceBEq,Nat.reduceAdd,Nat.reduceSub,Nat.reduceMul,Nat.reduceLT,Nat.reduceEqDiff,reduceCtorEq,Nat.reduceLeDiff]
    exact ⟨_,rfl,by rw [aZ];simp only [bC];exact eZ.aH 2⟩
   ·have c3:kP (dW base ((List.zipWith fs ep eh).take k)) (state.length+k)=.list none 2 (bC (g9 state eh ep)):=by rw [aP];exact if_neg a0
    simp only [go_sem,aV,aW,aB,c3,ed,xf,Int.reduceLE,Int.reduceLT,Int.reduceToNat,Int.reduceAdd,Int.reduceSub,↓reduceIte,Nat.reduceBEq,Nat.reduceAdd,Nat.reduceSub,Nat.reduceMul,Nat.reduceLT,Nat.reduceEqDiff,reduceCtorEq,Nat.reduceLeDiff]
    exact ⟨_,rfl,eZ.refl _⟩
end AM
