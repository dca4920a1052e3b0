/- An abstract machine for the program of the seat, and what of the given program it does, part 17 of 17. Conditions: none. -/
import Derived.Test.YtjpfdkecffnlbaaGreatDoorAm15
import Derived.OpenShut
import Derived.LaidLaws
set_option linter.unusedVariables false
set_option linter.unusedSimpArgs false
/-! The table of keywords as it is read, in immutable cells; arguments as data. -/
namespace AM
open Go
structure iB where
 s:List UInt8
 n:Int
 a:Bool
 b:Bool
def iB.vh {H:Type} (k:iB):DataW H:=.agg [.lit (.string k.s),.lit (.int .i64 k.n),.lit (.bool k.a),.lit (.bool k.b)]
def iB.cells (k:iB):List AV:=[.str k.s,.int .i64 k.n,.bool k.a,.bool k.b]
def iB.iq (k:iB):List Value:=[.string ⟨k.s.toArray⟩,.int .i64 k.n,.bool k.a,.bool k.b]
structure Bt (P:Program) (A lu S lW B:TypeId) (n:Nat):Prop where
 dk:P.underlying A=some (.array n lu)
 je:∃f0 f1 f2 f3:Field,P.underlying lu=some (.struct #[f0,f1,f2,f3])∧f0.type=S∧f0.offset=0∧f1.type=lW∧f1.offset=1∧f2.type=B∧f2.offset=2∧f3.type=B∧f3.offset=3
 lk:P.underlying S=some .string
 g7:P.underlying lW=some (.int .i64)
 fZ:P.underlying B=some .bool
 aqi:P.cellsOf A=n*4
 XI:P.cellsOf lu=4
 FB:P.cellsOf S=1
 aqj:P.cellsOf lW=1
 XJ:P.cellsOf B=1
section
variable {H:Type} {enc:TypeId×Value→H} {P:Program} {w:World} {base:Nat} {spare:Nat→Bool} {held:Bool} {A lu S lW B:TypeId} {n:Nat}
theorem aqk (T:Bt P A lu S lW B n) {fuel:Nat} {cs:List Value} {k:iB} {bT:List MemPlace} (h:DataW.trod enc P w base spare held fuel lu cs=some (k.vh,bT)):cs=k.iq:=by
 obtain ⟨f0,f1,f2,f3,je,bB,uc,aB,j0,aI,ik,dS,ka⟩:=T.je
 obtain ⟨xs,m,hm,ai,aN,FC,aP⟩:=DataW.trod_struct je h
 rw [T.XI] at aN
 match cs,aN with
 | [gT,cf,cY,eS],_ =>
  have lY:=congrArg Prod.fst ai
  simp only [iB.vh,DataW.agg.injEq] at lY
  match xs,lY with
  | [fq,x1,x2,x3],lY =>
   simp only [List.map_cons,List.map_nil,List.cons.injEq,and_true] at lY
   obtain ⟨hP,eA,gp,gq⟩:=lY
   have a0:=aP 0 f0 rfl
   have R:=aP 1 f1 rfl
   have aa:=aP 2 f2 rfl
   have al:=aP 3 f3 rfl
   rw [bB,uc,T.FB] at a0
   rw [aB,j0,T.aqj] at R
   rw [aI,ik,T.XJ] at aa
   rw [dS,ka,T.XJ] at al
   simp only [List.drop_zero,List.take_succ_cons,List.take_zero,List.drop_succ_cons,List.getElem?_cons_zero,List.getElem?_cons_succ] at a0 R aa al
   obtain ⟨s,gu,mv,_⟩:=DataW.trod_string T.lk a0
   obtain ⟨i,an,h2,_⟩:=DataW.trod_int T.g7 R
   obtain ⟨a,ar,rE⟩:=DataW.trod_bool T.fZ aa
   obtain ⟨b,aO,rF⟩:=DataW.trod_bool T.fZ al
   subst mv h2 rE rF
   simp only [DataW.lit.injEq,Lit.string.injEq,Lit.int.injEq,Lit.bool.injEq,true_and] at hP eA gp gq
   simp only [List.cons.injEq,and_true] at gu an ar aO
   subst gu an ar aO
   obtain ⟨az,arn,nr,mA⟩:=k
   simp only at hP eA gp gq
   subst hP eA gp gq
   rfl
theorem aql (T:Bt P A lu S lW B n) {fuel:Nat} {cs:List Value} {az:List iB} {bT:List MemPlace} (h:DataW.trod enc P w base spare held fuel A cs=some (.agg (az.map iB.vh),bT)) :
  cs.length=n*4∧az.length=n∧∀(i:Nat) k,az[i]?=some k→(cs.drop (i*4)).take 4=k.iq:=by
 obtain ⟨xs,m,hm,ai,aN,FC,aP⟩:=DataW.trod_array T.dk h
 have lY:=congrArg Prod.fst ai
 simp only [DataW.agg.injEq] at lY
 have m6:az.length=n:=by have:=congrArg List.length lY;simp at this;omega
 refine ⟨by rw [aN,T.aqi],m6,fun i k ab=>?_⟩
 have av:i<n:=by have:=(List.getElem?_eq_some_iff.1 ab).1;omega
 have R:=aP i av
 rw [T.XI] at R
 have aa:(xs.map (·.1))[i]?=some k.vh:=by rw [←lY];simp [ab]
 rw [List.getElem?_map,Option.map_eq_some_iff] at aa
 obtain ⟨y,aT,XK⟩:=aa
 rw [aT] at R
 obtain ⟨d,aro⟩:=y
 simp only at XK
 subst XK
 exact aqk T R
theorem XL {γ:dp} {b:Nat}:∀(az:List iB) (off:Nat),(∀k∈az,k.s.length≤M)→(∀(i:Nat) k,az[i]?=some k→∀j v,k.iq[j]?=some v→γ b (off+i*4+j)=some v)→dt γ b off (az.map iB.cells).flatten
 | [],_,_,_=>.nil _ _
 | k::az,off,c7,h=>by
  have a0:=h 0 k rfl
  have aA:=XL az (off+4) (fun k ab=>c7 k (by simp [ab])) fun i k' ab j v ax=>by
   have:=h (i+1) k' (by simpa using ab) j v ax
   rwa [show off+4+i*4+j=off+(i+1)*4+j by omega]
  simp only [List.map_cons,List.flatten_cons,iB.cells,List.cons_append,List.nil_append]
  refine .cons _ _ _ _ _ (by simpa using a0 0 _ rfl) rfl (.str _ (c7 k (by simp))) (.cons _ _ _ _ _ (by simpa using a0 1 _ rfl) rfl (.int _ _) (.cons _ _ _ _ _ (by simpa using a0 2 _ rfl) rfl (.bool _) (.cons _ _ _ _ _ (by simpa using a0 3 _ rfl) rfl (.bool _) aA)))
theorem aqm (T:Bt P A lu S lW B n) {name:String} {g:Nat} {az:List iB} {γ:dp} {W:World} (aK:P.globalNamed name=some g) (qp:(P.globals[g]?).map (·.type)=some A) (aqn:∀k∈az,k.s.length≤M)
  (h:laidMet P [(name,.agg (az.map iB.vh))] W) (fI:∀b o v,W.cell? ⟨b,o,none⟩=some v→γ b o=some v):dt γ g 0 (az.map iB.cells).flatten:=by
 obtain ⟨bT,⟨g',ht,cs,fuel,p,q,Cp,aqo,aqp,aw,_,_⟩,_⟩:=h
 obtain rfl:=Option.some.inj (aK.symm.trans Cp)
 obtain rfl:=Option.some.inj (qp.symm.trans aqo)
 obtain ⟨R,aa,al⟩:=aql T aw
 refine XL az 0 aqn fun i k ab j v ax=>fI _ _ _ ?_
 rw [World.var?_cell aK aqp,←Array.getElem?_toList]
 have aY:=al i k ab
 have a6:j<4:=by
  have:=(List.getElem?_eq_some_iff.1 ax).1
  simpa [iB.iq] using this
 rw [←aY,List.getElem?_take,if_pos a6,List.getElem?_drop] at ax
 simpa using ax
end
end AM
