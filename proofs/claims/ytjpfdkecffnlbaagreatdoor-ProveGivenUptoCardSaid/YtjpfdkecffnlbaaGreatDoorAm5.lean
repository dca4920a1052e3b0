/- An abstract machine for the program of the seat, and what of the given program it does, part 6 of 17. Conditions: none. -/
import Derived.Test.YtjpfdkecffnlbaaGreatDoorAm4
import Derived.Maps.Keyed
import Derived.DeepKeys4
set_option linter.unusedVariables false
set_option linter.unusedSimpArgs false
/-! The simulation of maps: keys. -/
namespace AM
open Go Go.Maps
section
variable {P:Program} {gl:aR} {N:Nat} {g g':a5} {s s':ae} {a:Act} {w w':World} {o:Oper} {γ dq:dp}
def qh (P:Program):List Nat→List Field→Nat→Bool
 | [],[],_=>true
 | k::az,f::cu,i=>f.name != "_"&&f.offset==i&&P.cellsOf f.type==1&&(match P.underlying f.type with | some .string=>k==1 | some .bool=>k==2 | _=>false)&&qh P az cu (i+1)
 | _,_,_=>false
def nd (P:Program) (k:TypeId) (az:List Nat):Bool:=match P.underlying k with
 | some .string=>az==[1]
 | some (.struct cu)=>laidOutB P&&decide (k<P.types.size)&&P.keyTypeAt 3 k&&P.keyType k&&az.length != 1&&P.cellsOf k==az.length&&qh P az cu.toList 0
 | _=>false
theorem CC {k:TypeId} {az:List Nat} (h:nd P k az=true):Keyed P k:=by
 unfold nd at h
 split at h
 ·rename_i hu;exact string_keyed hu
 ·rename_i cu hu
  simp only [Bool.and_eq_true,decide_eq_true_eq] at h
  exact Keyed.of_law (deep_law_laid h.1.1.1.1.1.1 (by omega) h.1.1.1.1.1.2 h.1.1.1.1.2 (by simp [hu]))
 ·cases h
theorem Zk {az:List Nat} {l:List UInt8} (h:e2 az (.str l)=true):az=[1]:=by simpa [e2] using h
theorem pb {az:List Nat} {x:AV} (h:e2 az x=true):(∃l,x=.str l∧az=[1])∨∃cs,x=.agg cs∧az.length≠1∧cs.map jz=az∧∀k∈az,k=1∨k=2:=by
 cases x<;>simp [e2] at h
 ·exact .inl ⟨_,rfl,h⟩
 ·exact .inr ⟨_,rfl,h.1.1,h.2,h.1.2⟩
theorem vM {c:AV} (h:jz c=1):∃l,c=.str l:=by cases c<;>simp [jz] at h;exact ⟨_,rfl⟩
theorem vN {c:AV} (h:jz c=2):∃b,c=.bool b:=by cases c<;>simp [jz] at h;exact ⟨_,rfl⟩
theorem Zl:∀{az:List Nat} {xs ys:List AV} {us vs:List Value},xs.map jz=az→ys.map jz=az→(∀k∈az,k=1∨k=2)→e3 γ xs us→e3 dq ys vs →
  (∃b,eqs xs ys=some b)∧(eqs xs ys=some true↔us=vs)∧(xs=ys↔us=vs):=by
 intro az
 induction az with
 | nil =>
  intro xs ys us vs ai aT _ R aa
  simp at ai aT;subst ai aT
  cases R;cases aa
  simp [eqs]
 | cons k az ih =>
  intro xs ys us vs ai aT ab R aa
  cases xs with
  | nil=>simp at ai
  | cons x xs =>
   cases ys with
   | nil=>simp at aT
   | cons y ys =>
    simp at ai aT
    cases R with
    | cons _ _ u us _ aG aJ =>
     cases aa with
     | cons _ _ v vs _ an ar =>
      obtain ⟨⟨b,i0⟩,i1,i2⟩:=ih ai.2 aT.2 (fun k fp=>ab k (by simp [fp])) aJ ar
      rcases ab k (by simp) with rfl | rfl
      ·obtain ⟨l,rfl⟩:=vM ai.1
       obtain ⟨m,rfl⟩:=vM aT.1
       cases aG;cases an
       refine ⟨⟨_,by simp [eqs,ml,i0];rfl⟩,?_,by simp [i2]⟩
       simp only [eqs,ml,i0]
       rw [i0] at i1
       simp only [Option.some.injEq] at i1
       simp [i1]
      ·obtain ⟨l,rfl⟩:=vN ai.1
       obtain ⟨m,rfl⟩:=vN aT.1
       cases aG;cases an
       refine ⟨⟨_,by simp [eqs,ml,i0];rfl⟩,?_,by simp [i2]⟩
       simp only [eqs,ml,i0]
       rw [i0] at i1
       simp only [Option.some.injEq] at i1
       simp [i1]
theorem qi {az:List Nat} {x y:AV} {u v:Value} (ai:e2 az x=true) (aT:e2 az y=true) (R:cp γ x u) (aa:cp dq y v):(cI x y=true↔u=v)∧(x=y↔u=v):=by
 rcases pb ai with ⟨l,rfl,rfl⟩ | ⟨cs,rfl,al,aY,bn⟩
 ·rcases pb aT with ⟨m,rfl,_⟩ | ⟨cs,rfl,h,_⟩
  ·cases R;cases aa
   simp [cI]
  ·simp at h
 ·rcases pb aT with ⟨m,rfl,h⟩ | ⟨fB,rfl,aO,bD,_⟩
  ·subst h;simp at al
  ·cases R with
   | agg _ us aG =>
    cases aa with
    | agg _ vs aJ =>
     obtain ⟨⟨b,i0⟩,i1,i2⟩:=Zl aY bD bn aG aJ
     simp only [cI,beq_iff_eq,i1,Value.agg.injEq]
     simp [i2]
theorem vO {az:List Nat} {x y:AV} (ai:e2 az x=true) (aT:e2 az y=true) {u v:Value} (R:cp γ x u) (aa:cp dq y v):cI x y=true↔x=y:=by
 rw [(qi ai aT R aa).1,(qi ai aT R aa).2]
theorem aU.key {az:List Nat} {x:AV} {v:Value} (ai:e2 az x=true) (h:aU g x v):cp γ x v:=by
 rcases pb ai with ⟨l,rfl,rfl⟩ | ⟨cs,rfl,al,aY,bn⟩
 ·obtain ⟨rfl,aN⟩:=h.jC;exact .str _ aN
 ·obtain ⟨ws,rfl,R,aa⟩:=h.jD
  refine .agg _ _ ?_
  subst aY
  clear al ai h
  revert bn R
  induction ws generalizing cs with
  | nil=>intro R bn;cases R;exact .nil
  | cons w ws ih =>
   intro R bn
   cases R with
   | cons c cs _ _ an ar =>
    refine .cons _ _ _ _ (aa w (by simp)) ?_ (ih cs (fun x ai=>aa x (by simp [ai])) ar (fun k ab=>bn k (List.mem_cons_of_mem _ ab)))
    rcases bn (jz c) (by simp) with ab | ab
    ·obtain ⟨l,rfl⟩:=vM ab
     obtain ⟨rfl,h⟩:=an.jC;exact .str _ h
    ·obtain ⟨l,rfl⟩:=vN ab
     have:=an.kt;subst this;exact .bool _
theorem Zm {n:Nat} {full:List Value}:∀(cu:List Field) (az:List Nat) (i:Nat) (cs:List AV) (ws:List Value),qh P az cu i=true→full.drop i=ws→e3 γ cs ws→cs.map jz=az →
  ∃r,(cu.mapM fun f=>P.keyLits (n+1) f.type ((full.drop f.offset).take (P.cellsOf f.type)))=some r:=by
 intro cu
 induction cu with
 | nil=>intro az i cs ws h _ _ _;exact ⟨[],by simp⟩
 | cons f cu ih =>
  intro az i cs ws h hw ao ab
  cases az with
  | nil=>simp [qh] at h
  | cons k az =>
   simp only [qh,Bool.and_eq_true,beq_iff_eq] at h
   obtain ⟨⟨⟨⟨R,aa⟩,al⟩,aY⟩,bn⟩:=h
   cases cs with
   | nil=>simp at ab
   | cons c cs =>
    simp at ab
    cases ao with
    | cons _ _ v ws ax aG aJ =>
     have CD:full.drop (i+1)=ws:=by
      rw [←List.drop_drop,hw];simp
     obtain ⟨r,aA⟩:=ih az (i+1) cs ws bn CD aJ ab.2
     have g3:(full.drop f.offset).take (P.cellsOf f.type)=[v]:=by rw [aa,al,hw];simp
     have:∃l,P.keyLits (n+1) f.type [v]=some l:=by
      split at aY
      ·rename_i hu
       simp at aY
       obtain ⟨l,rfl⟩:=vM (ab.1.trans aY)
       cases aG with
       | str _ aN =>
        refine ⟨_,by simp only [Program.keyLits,hu];rw [if_pos];simp [ByteArray.size];unfold M at aN;unfold maxLen;omega⟩
      ·rename_i hu
       simp at aY
       obtain ⟨l,rfl⟩:=vN (ab.1.trans aY)
       cases aG
       exact ⟨_,by simp only [Program.keyLits,hu];rfl⟩
      ·cases aY
     obtain ⟨l,aN⟩:=this
     refine ⟨l::r,?_⟩
     rw [List.mapM_cons,g3,aN]
     simp only [Option.bind_eq_bind,Option.bind_some,aA]
     rfl
theorem Mg:∀{cu:List Field} {az:List Nat} {i:Nat},qh P az cu i=true→∀f∈cu,(f.name != "_")=true
 | [],_,_,_,_,h=>by simp at h
 | f::cu,[],_,h,_,_=>by simp [qh] at h
 | f::cu,k::az,i,h,eR,aP=>by
  simp only [qh,Bool.and_eq_true,beq_iff_eq] at h
  rcases List.mem_cons.1 aP with rfl | aP
  ·exact h.1.1.1.1
  ·exact Mg h.2 eR aP
theorem e3.len:∀{ws:List Value} {cs:List AV},e3 γ cs ws→ws.length=cs.length
 | [],_,h=>by cases h;rfl
 | _::_,_,.cons _ _ _ _ _ _ h=>by simp [e3.len h]
theorem yF {k:TypeId} {az:List Nat} {x:AV} {v:Value} (ab:nd P k az=true) (ai:e2 az x=true) (h:cp γ x v):∃l,keyOf P k v=some l:=by
 unfold nd at ab
 split at ab
 ·rename_i hu
  simp at ab;subst ab
  rcases pb ai with ⟨l,rfl,_⟩ | ⟨cs,rfl,h,_⟩
  ·cases h with
   | str _ aN=>exact ⟨_,by simp only [keyOf,hu,mapKey];rw [if_pos];simp [ByteArray.size];unfold M at aN;unfold maxLen;omega⟩
  ·simp at h
 ·rename_i cu hu
  simp only [Bool.and_eq_true,decide_eq_true_eq,beq_iff_eq,bne_iff_ne] at ab
  obtain ⟨⟨⟨⟨⟨⟨_,aa⟩,_⟩,aY⟩,bn⟩,cw⟩,dr⟩:=ab
  rcases pb ai with ⟨l,rfl,cC⟩ | ⟨cs,rfl,_,an,ar⟩
  ·subst cC;simp at bn
  ·cases h with
   | agg _ ws ao =>
    have hlen:ws.length=az.length:=by
     rw [←an,List.length_map];exact ao.len
    obtain ⟨m,hm⟩:∃m,P.types.size=m+1:=⟨P.types.size - 1,by have:0<P.types.size:=Nat.lt_of_le_of_lt (Nat.zero_le _) aa;exact (Nat.succ_pred_eq_of_pos this).symm⟩
    obtain ⟨r,aA⟩:=Zm (P:=P) (n:=m) (full:=ws) cu.toList az 0 cs ws dr rfl ao an
    have aP:(Value.agg ws.toArray).formed P k=true:=by simp [Value.formed,hu,hlen,cw]
    have a1:cu.all (·.name != "_")=true:=by
     rw [←Array.all_toList,List.all_eq_true]
     exact Mg dr
    refine ⟨_,by
     simp only [keyOf,hu,aY,aP,Bool.and_self,if_true]
     show (P.keyLits (P.types.size+1) k ws.toArray.toList).map _=_
     simp only [Program.keyLits,hu]
     rw [if_pos ⟨by rw [hlen,cw],a1⟩,hm,aA]
     rfl⟩
 ·cases ab
end
end AM
/-! The simulation of maps: new ones, lookups. -/
namespace AM
open Go Go.Maps
section
variable {P:Program} {gl:aR} {N:Nat} {g g':a5} {s s':ae} {a:Act} {w w':World} {o:Oper} {γ dq:dp}
theorem Rel.CE (h:Rel P gl N g s a w) (x:Obj) (bt:aM)
  (bh:∀g',(∀b,g'.bd b=(g.gE w.heap.size (.bt s.heap.length)).bd b)→GhLe g g'→g'.b4 s.heap.length=some w.heap.size→mY P g' (w.alloc x) s.heap.length bt) :
  ∃g',dj g w g' (w.alloc x)∧Rel P gl N g' { s with heap:=s.heap++[bt] } a (w.alloc x)∧g'.b4 s.heap.length=some w.heap.size:=by
 obtain ⟨an,ar⟩:=h.alloc x (.bt s.heap.length)
 let bQ:a5:={ g.gE w.heap.size (.bt s.heap.length) with b4:=fun id=>if id=s.heap.length then some w.heap.size else g.b4 id }
 have hle:GhLe (g.gE w.heap.size (.bt s.heap.length)) bQ:=⟨fun _ _ _ h=>h,fun id b bG=>by
  have:=h.er id b bG
  simp [bQ,show id≠s.heap.length by omega];exact bG⟩
 have ab:∀K,Kept (g.gE w.heap.size (.bt s.heap.length)) (w.alloc x) bQ (w.alloc x) K:=fun K b _=>⟨rfl,rfl,fun _=>rfl⟩
 have kA:dj g w bQ (w.alloc x):=an.trans ⟨hle,fun b ah=>⟨ah,rfl,fun _=>rfl⟩,Nat.le_refl _,rfl,rfl⟩
 refine ⟨bQ,kA,?_,by simp [bQ]⟩
 refine ⟨ar.sorted,ar.size,ar.defers,fun t e he=>(ar.env t e he).kept hle (ab fun _=>True) trivial trivial (fun _=>trivial),fun id ti rB=>?_,ar.dY,ar.own,ar.e4,fun id b bG=>?_⟩
 ·simp only at rB
  rcases Nat.lt_trichotomy id s.heap.length with bz | rfl | LU
  ·rw [List.getElem?_append_left bz] at rB
   exact (ar.heap id ti rB).kept hle (ab fun _=>True) (fun _=>trivial) (fun _=>trivial)
  ·simp at rB;subst rB
   exact bh bQ (fun _=>rfl) kA.toGhLe (by simp [bQ])
  ·rw [List.getElem?_eq_none (by simp;omega)] at rB;cases rB
 ·simp only [List.length_append,List.length_singleton]
  by_cases e:id=s.heap.length
  ·omega
  ·simp [bQ,e] at bG;have:=h.er id b bG;omega
theorem Zn (id:Nat):cc (.map id):=fun _ _ _ h=>by simp at h
def CF (N:Nat) (o:Oper) (d:Nat):Bool:=b2 N o d&&(match o.op with | .makeMap _ none=>true | _=>false)
theorem run_makeMap {t:TypeId}:(Instr.makeMap t none).run P w=.ok (.map (some w.heap.size)) (w.alloc (.map #[] 0)):=by
 simp [Instr.makeMap,newObj,Sem.run]
theorem Zo {d:Nat} (h:Rel P gl N g s a w) (af:CF N o d=true) (he:au gl s (.jx d)=some s'):cJ P gl N o g a w s':=by
 simp only [CF,Bool.and_eq_true] at af
 obtain ⟨aw,aD⟩:=af
 split at aD
 ·rename_i t aE
  simp only [au] at he
  simp only [b2,Bool.and_eq_true,beq_iff_eq,decide_eq_true_eq] at aw
  obtain ⟨g',an,ar,aO⟩:=h.CE (.map #[] 0) (.map 0 []) (fun g' R aa al =>
   ⟨w.heap.size,al,#[],heap_alloc_new w _,by rw [R];simp [a5.gE],⟨[],.nil,rfl,by simp⟩,by simp,by simp,by simp,[],by simp⟩)
  refine ⟨.map (some w.heap.size),w.alloc (.map #[] 0),g',.inl ?_,an,?_⟩
  ·simp only [execOp,aE,Option.map_none,Sem.run_bind,run_makeMap,Result.andThen_ok,Sem.run_pure]
  ·rw [aw.1]
   exact ar.put he aw.2 (.map _ _ aO) (Zn _).fo
 ·cases aD
theorem Zp {es:List (AV×AV)} {x:AV} (h:∀e∈es,cI x e.1=false):gP es x=none:=by
 induction es with
 | nil=>rfl
 | cons e r ih =>
  obtain ⟨k,v⟩:=e
  have:=h (k,v) (by simp)
  simp only at this
  simp [gP,this,ih fun e he=>h e (by simp [he])]
theorem Zq {es:List (AV×AV)} {x k v:AV} (he:(k,v)∈es) (ab:cI x k=true) (hu:∀e∈es,cI x e.1=true→e.1=k) (ao:es.Pairwise fun x y=>x.1≠y.1):gP es x=some v:=by
 induction es with
 | nil=>simp at he
 | cons e r ih =>
  obtain ⟨k',bP⟩:=e
  obtain ⟨hx,ja⟩:=List.pairwise_cons.1 ao
  simp only [gP]
  by_cases R:cI x k'=true
  ·have:=hu (k',bP) (by simp) R
   simp only at this;subst this
   rcases List.mem_cons.1 he with aa | aa
   ·simp at aa;simp [R,aa]
   ·exact absurd (rfl:k'=k') (hx (k',v) aa)
  ·simp only [R,Bool.false_eq_true,if_false]
   rcases List.mem_cons.1 he with aa | aa
   ·simp at aa;rw [aa.1] at ab;exact absurd ab R
   ·exact ih aa (fun e he=>hu e (by simp [he])) ja
theorem Zr {az CG:List Nat} {es:List (AV×AV)} (h:lC az es=true) (cC:∀e∈es,e2 CG e.1=true):∀e∈es,e2 az e.1=true:=by
 cases es with
 | nil=>simp
 | cons e r =>
  obtain ⟨k,v⟩:=e
  have R:=cC (k,v) (by simp)
  simp only [lC] at h
  have:az=CG:=by
   rcases pb h with ⟨l,rfl,aa⟩ | ⟨cs,rfl,_,aa,_⟩
   ·exact aa.trans (Zk R).symm
   ·rcases pb R with ⟨l,h,_⟩ | ⟨cG,h,_,al,_⟩
    ·cases h
    ·cases h;exact aa.symm.trans al
  subst this
  exact cC
structure hk (P:Program) (g:a5) (w:World) (id b n:Nat) (es:List (AV×AV)) (az:List Nat) (arr:Array MapEntry) (b9:List (AV×AV)):Prop where
 k6:w.heap[b]?=some (.map arr n)
 own:g.bd b=.bt id
 perm:b9.Perm es
 len:b9.length=arr.toList.length
 at_:∀(i:Nat) e m,b9[i]?=some e→arr.toList[i]?=some m→sT P g w id e m
 born:arr.toList.Pairwise (fun x y=>x.born<y.born)
 lt:∀m∈arr.toList,m.born<n
 uniq:es.Pairwise (fun x y=>cI x.1 y.1=false)
 fit:∀e∈es,e2 az e.1=true
theorem iV.at {id b n:Nat} {es:List (AV×AV)} {az:List Nat} (h:iV P g w id b n es) (aP:lC az es=true):∃arr b9,hk P g w id b n es az arr b9:=by
 obtain ⟨arr,R,aa,⟨b9,al,aY,bn⟩,cw,dr,hL,CG,hM⟩:=h
 exact ⟨arr,b9,R,aa,al,aY,bn,cw,dr,hL,Zr aP hM⟩
section
variable {id b n:Nat} {es b9:List (AV×AV)} {az:List Nat} {arr:Array MapEntry}
theorem hk.other (h:hk P g w id b n es az arr b9) {m:MapEntry} (hm:m∈arr.toList):∃(i:Nat) (e:AV×AV),b9[i]?=some e∧arr.toList[i]?=some m∧e∈es∧sT P g w id e m:=by
 obtain ⟨i,av,n4⟩:=List.getElem_of_mem hm
 have aN:i<b9.length:=by rw [h.len];exact av
 have R:b9[i]?=some b9[i]:=by simp [aN]
 have aa:arr.toList[i]?=some m:=by rw [List.getElem?_eq_getElem av,n4]
 exact ⟨i,_,R,aa,h.perm.mem_iff.1 (List.mem_of_getElem? R),h.at_ i _ _ R aa⟩
theorem hk.pc (h:hk P g w id b n es az arr b9) {e:AV×AV} (he:e∈es):∃(i:Nat) (m:MapEntry),b9[i]?=some e∧arr.toList[i]?=some m∧sT P g w id e m:=by
 obtain ⟨i,av,Zs⟩:=List.getElem_of_mem (h.perm.mem_iff.2 he)
 have aN:i<arr.toList.length:=by rw [←h.len];exact av
 have R:b9[i]?=some e:=by rw [List.getElem?_eq_getElem av,Zs]
 have aa:arr.toList[i]?=some arr.toList[i]:=List.getElem?_eq_getElem aN
 exact ⟨i,_,R,aa,h.at_ i _ _ R aa⟩
theorem hk.ne (h:hk P g w id b n es az arr b9):es.Pairwise fun x y=>x.1≠y.1:=by
 refine List.Pairwise.imp_of_mem ?_ h.uniq
 intro x y ai aT yG e
 obtain ⟨_,m,_,_,an,_⟩:=h.pc ai
 have:=(vO (h.fit x ai) (h.fit y aT) (aU.key (γ:=g.γ) (h.fit x ai) an) (aU.key (γ:=g.γ) (h.fit y aT) (e▸an))).2 e
 rw [this] at yG;cases yG
theorem hk.find (h:hk P g w id b n es az arr b9) {db:TypeId} (ab:nd P db az=true) {kk:AV} {v:Value} (aP:e2 az kk=true) (ax:aU g kk v) :
  (∀em,(Instr.checkKey em 10000 db v).run P w=.ok () w) ∧
  (((Instr.findKey db v arr.toList).run P w=.ok none w∧gP es kk=none∧(∀e∈es,cI kk e.1=false)∧∀m∈arr.toList,m.key≠v) ∨
   ∃(j:Nat) (m:MapEntry) (x:AV),(Instr.findKey db v arr.toList).run P w=.ok (some (j,m.val)) w∧arr.toList[j]?=some m∧m.key=v∧b9[j]?=some (kk,x)∧gP es kk=some x∧sT P g w id (kk,x) m):=by
 have K:=CC ab
 have n5:=aU.key (γ:=g.γ) aP ax
 obtain ⟨l,aN⟩:=yF ab aP n5
 have kA:∀m∈arr.toList,∃l,keyOf P db m.key=some l:=fun m hm=>by
  obtain ⟨i,e,_,_,he,aA⟩:=h.other hm
  exact yF ab (h.fit e he) (aU.key (γ:=g.γ) (h.fit e he) aA.1)
 refine ⟨fun em=>K.check w em aN,?_⟩
 rcases K.find w aN arr.toList kA with ⟨R,aa⟩ | ⟨j,m,R,aa,al⟩
 ·have ck:∀e∈es,cI kk e.1=false:=fun e he=>by
   obtain ⟨i,m,_,hm,aA⟩:=h.pc he
   cases bc:cI kk e.1 with
   | false=>rfl
   | true =>
    have:=(qi aP (h.fit e he) n5 (aU.key (γ:=g.γ) (h.fit e he) aA.1)).1.1 bc
    exact absurd this.symm (aa m (List.mem_of_getElem? hm))
  exact .inl ⟨R,Zp ck,ck,aa⟩
 ·obtain ⟨i,e,av,hm,he,aA⟩:=h.other (List.mem_of_getElem? aa)
  have Mh:j<b9.length:=by rw [h.len];exact (List.getElem?_eq_some_iff.1 aa).1
  have Mi:b9[j]?=some b9[j]:=by simp [Mh]
  have Mj:=h.at_ j _ _ Mi aa
  have kB:b9[j]∈es:=h.perm.mem_iff.1 (List.getElem_mem Mh)
  have eL:=aU.key (γ:=g.γ) (h.fit _ kB) Mj.1
  have heq:=(qi aP (h.fit _ kB) n5 eL).2.2 al.symm
  refine .inr ⟨j,m,b9[j].2,R,aa,al,?_,?_,?_⟩
  ·rw [Mi,heq]
  ·refine Zq (k:=kk) (by rw [heq];exact kB) ((qi aP aP n5 n5).1.2 rfl) (fun e he vP=>?_) h.ne
   obtain ⟨_,gH,_,_,iZ⟩:=h.pc he
   exact ((vO aP (h.fit e he) n5 (aU.key (γ:=g.γ) (h.fit e he) iZ.1)).1 vP).symm
  ·rw [heq];exact Mj
end
def Mk (P:Program) (t:TypeId) (z:AV):Bool:=match P.info? t with
 | some i=>(match i.zero with | some v=>const v z | none=>false)
 | none=>false
def CH (P:Program) (N:Nat) (o:Oper) (az:List Nat) (d:Nat) (m k:aq) (zero:AV) (ok:Bool):Bool:=b2 N o d &&
 (match o.op with
  | .lookup t gH k' qj=>cA gH m&&cA k' k&&qj==ok&&(match P.underlying t with | some (.map db fi)=>nd P db az&&Mk P fi zero | _=>false)
  | _=>false)
theorem Ml {t db fi:TypeId} {b n:Nat} {arr:Array MapEntry} {k x:Value} {j:Nat} {ok:Bool} (hu:P.underlying t=some (.map db fi)) (ah:w.heap[b]?=some (.map arr n))
  (R:∀em,(Instr.checkKey em 10000 db k).run P w=.ok () w) (aa:(Instr.findKey db k arr.toList).run P w=.ok (some (j,x)) w) :
  (Instr.lookup t (.map (some b)) k ok).run P w=.ok (if ok=true then .tuple #[x,.bool true] else x) w:=by
 simp only [Instr.lookup,Sem.run_bind,run_underlying hu,Result.andThen_ok,MapKept.run_getObj_map ah,Sem.run_pure,R,aa]
theorem Mm {t db fi:TypeId} {b n:Nat} {arr:Array MapEntry} {k z:Value} {i:TypeInfo} {ok:Bool} (hu:P.underlying t=some (.map db fi)) (ah:w.heap[b]?=some (.map arr n))
  (R:∀em,(Instr.checkKey em 10000 db k).run P w=.ok () w) (aa:(Instr.findKey db k arr.toList).run P w=.ok none w) (av:P.info? fi=some i) (bx:i.zero=some z) :
  (Instr.lookup t (.map (some b)) k ok).run P w=.ok (if ok=true then .tuple #[z,.bool false] else z) w:=by
 simp only [Instr.lookup,Sem.run_bind,run_underlying hu,Result.andThen_ok,MapKept.run_getObj_map ah,Sem.run_pure,R,aa,zeroValue,typeInfo,run_program,av,bx]
theorem Zt {t db fi:TypeId} {k z:Value} {i:TypeInfo} {ok:Bool} (hu:P.underlying t=some (.map db fi))
  (R:∀em,(Instr.checkKey em 10000 db k).run P w=.ok () w) (aa:(Instr.findKey db k []).run P w=.ok none w) (av:P.info? fi=some i) (bx:i.zero=some z) :
  (Instr.lookup t (.map none) k ok).run P w=.ok (if ok=true then .tuple #[z,.bool false] else z) w:=by
 simp only [Instr.lookup,Sem.run_bind,run_underlying hu,Result.andThen_ok,Sem.run_pure,R,aa,zeroValue,typeInfo,run_program,av,bx]
theorem aU.opt {x:AV} {v:Value} {c:Bool} (h:aU g x v) (ok:Bool):aU g (if ok=true then .bw [x,.bool c] else x) (if ok=true then .tuple #[v,.bool c] else v):=by
 cases ok with
 | false=>exact h
 | true=>exact .bw _ [v,.bool c] (.cons _ _ _ _ h (.cons _ _ _ _ (.pure _ _ (.bool _)) .nil))
theorem CI {x:AV} {c:Bool} (h:cc x) (ok:Bool):cc (if ok=true then .bw [x,.bool c] else x):=by
 cases ok with
 | false=>exact h
 | true=>intro e sz xs h;simp at h
theorem Zu {v:Value} {z:AV} (h:const v z=true):cc z:=by
 have:=BA (γ:=fun _ _=>none) h
 intro e sz xs bx
 subst bx;cases this
theorem Zv {az:List Nat} {d:Nat} {m k:aq} {zero:AV} {ok:Bool} (h:Rel P gl N g s a w) (af:CH P N o az d m k zero ok=true) (he:au gl s (.look az d m k zero ok)=some s'):cJ P gl N o g a w s':=by
 simp only [CH,Bool.and_eq_true] at af
 obtain ⟨aw,aD⟩:=af
 split at aD
 ·rename_i t gH k' qj aE
  simp only [Bool.and_eq_true,beq_iff_eq] at aD
  obtain ⟨⟨⟨hm,ab⟩,rfl⟩,aD⟩:=aD
  split at aD
  ·rename_i db fi hu
   simp only [Bool.and_eq_true] at aD
   obtain ⟨vQ,bx⟩:=aD
   unfold Mk at bx
   split at bx
   ·rename_i i av
    split at bx
    ·rename_i hj yH
     have Mn:aU g zero hj:=.pure _ _ (BA bx)
     have Mo:=Zu bx
     simp only [au] at he
     split at he
     ·rename_i id kk aB aI
      split at he
      ·rename_i CJ es bG
       split at he
       ·rename_i aP
        simp only [Bool.and_eq_true] at aP
        obtain ⟨b,bf,bu⟩:=h.heap _ _ bG
        obtain ⟨arr,b9,A⟩:=bu.at aP.2
        obtain ⟨bE,an,ar⟩:=(ca h hm aB).oX
        rw [bf] at an;simp at an;subst an
        have eL:=ca h ab aI
        obtain ⟨nf,j1⟩:=A.find vQ aP.1 eL
        rcases j1 with ⟨f1,f2,_⟩ | ⟨j,hy,x,f1,f2,f3,f4,f5,f6⟩
        ·rw [f2] at he
         refine .value h aw he ?_ (Mn.opt qj) (CI Mo qj)
         simp only [execOp,aE,ar,Sem.run_bind,Mm hu A.k6 nf f1 av yH,Result.andThen_ok,Sem.run_pure]
        ·rw [f5] at he
         refine .value h aw he ?_ (aU.opt (aU.aL f6.2.2.1) qj) (CI (cc.aL _) qj)
         simp only [execOp,aE,ar,Sem.run_bind,Ml hu A.k6 nf f1,Result.andThen_ok,Sem.run_pure]
       ·cases he
      ·cases he
     ·rename_i kk aB aI
      split at he
      ·rename_i aP
       have q:=(ca h hm aB).BP
       have eL:=ca h ab aI
       have K:=CC vQ
       obtain ⟨l,aN⟩:=yF vQ aP (aU.key (γ:=g.γ) aP eL)
       refine .value h aw he ?_ (Mn.opt qj) (CI Mo qj)
       rcases K.find w aN [] (by simp) with ⟨f1,_⟩ | ⟨j,e,_,f2,_⟩
       ·simp only [execOp,aE,q,Sem.run_bind,Zt hu (fun em=>K.check w em aN) f1 av yH,Result.andThen_ok,Sem.run_pure]
       ·simp at f2
      ·cases he
     ·cases he
    ·cases bx
   ·cases bx
  ·cases aD
 ·cases aD
end
end AM
/-! The simulation of maps: writes. -/
namespace AM
open Go Go.Maps
section
variable {P:Program} {gl:aR} {N:Nat} {g g':a5} {s s':ae} {a:Act} {w w':World} {o:Oper} {γ dq:dp}
def iH (w:World) (b:Nat) (arr:Array MapEntry) (n:Nat):World:={ w with heap:=w.heap.setIfInBounds b (.map arr n) }
theorem CK {b n n':Nat} {arr arr':Array MapEntry} (h:w.heap[b]?=some (.map arr n)):(iH w b arr' n').heap[b]?=some (.map arr' n'):=by
 have:=(Array.getElem?_eq_some_iff.1 h).1
 simp [iH,this]
theorem tj {b n' k:Nat} {arr':Array MapEntry} (h:k≠b):(iH w b arr' n').heap[k]?=w.heap[k]?:=by
 simp [iH,Array.getElem?_setIfInBounds_ne (Ne.symm h)]
theorem Mp {b n':Nat} {arr':Array MapEntry}:(iH w b arr' n').heap.size=w.heap.size:=by simp [iH]
theorem mY.Zw {id eP b n n':Nat} {o:aM} {arr arr':Array MapEntry} (h:mY P g w eP o) (bG:eP≠id) (ah:g.b4 id=some b) (aE:g.bd b=.bt id) (hw:w.heap[b]?=some (.map arr n)) (a1:n≤n')
  (lL:n'=n→∀m∈arr'.toList,∃iI∈arr.toList,iI.born=m.born∧iI.key=m.key):mY P g (iH w b arr' n') eP o:=by
 have aK:GhLe g g:=⟨fun _ _ _ h=>h,fun _ _ h=>h⟩
 have ab:Kept g w g (iH w b arr' n') fun o=>o≠.bt id:=fun k ab=>⟨rfl,tj (fun e=>ab (by rw [e,aE])),fun _=>rfl⟩
 cases o with
 | cells cs=>obtain ⟨bE,aG,aJ⟩:=h;exact ⟨bE,aG,aJ.kept aK ab (by simp [bG]) (by simp)⟩
 | buf e cs =>
  obtain ⟨bE,k,aG,aJ,bo,⟨arr,cd,dV⟩,fY⟩:=h
  have aO:g.bd bE=.bt eP:=bo.choose_spec.choose_spec.2.2.1
  refine ⟨bE,k,aG,aJ,bo.kept aK ab (by simp [bG]) (by simp),⟨arr,?_,dV⟩,fY⟩
  exact (ab bE (by rw [aO];simp [bG])).2.1.trans cd
 | map n es=>obtain ⟨bE,aG,aJ⟩:=h;exact ⟨bE,aG,aJ.kept aK ab (by simp [bG]) (by simp)⟩
 | iter m since seen =>
  obtain ⟨bE,o,aG,aJ,bo,cd⟩:=h
  refine ⟨bE,o,aG,(ab bE (by rw [bo];simp [bG])).2.1.trans aJ,bo,?_⟩
  cases m with
  | none =>
   cases o<;>first | exact cd | skip
   rename_i mp _ _ _
   cases mp<;>exact cd
  | some a7 =>
   cases o<;>try exact cd
   rename_i mp s eO last
   cases mp with
   | none=>exact cd
   | some b1 =>
    obtain ⟨an,ar,aO,bD,ew,qk,ey,p5,CL⟩:=cd
    by_cases hm:a7=id
    ·subst hm
     rw [ah] at an;simp at an;subst an
     rw [hw] at p5;simp at p5;obtain ⟨rfl,rfl⟩:=p5
     refine ⟨ah,ar,aO,bD,?_,arr',n',CK hw,by omega⟩
     obtain ⟨L,bf,bu,b5,cy,eW⟩:=ew
     refine ⟨L,bf,bu,b5,cy,fun aqK aZ m hm=>?_⟩
     rw [CK hw] at aZ;simp at aZ;obtain ⟨rfl,rfl⟩:=aZ
     have yp:n'=n:=by omega
     obtain ⟨iI,a0,R,aa⟩:=lL yp m hm
     subst yp
     obtain ⟨k,fh,ga⟩:=eW _ hw iI a0
     exact ⟨k,by rw [←R];exact fh,by rw [←aa];exact ga⟩
    ·have mq:b1≠b:=fun e=>by rw [e,aE] at ar;simp at ar;exact hm ar.symm
     exact ⟨an,ar,aO,bD,ew.kept (tj mq),qk,ey,(tj mq).trans p5,CL⟩
 | dead=>trivial
theorem Rel.yI (h:Rel P gl N g s a w) {id b n n':Nat} {es b9 es2 es2':List (AV×AV)} {az:List Nat} {arr arr':Array MapEntry} (ah:g.b4 id=some b) (A:hk P g w id b n es az arr b9) (a1:n≤n')
  (Zx:es2'.Perm es2) (hlen:es2'.length=arr'.toList.length) (CM:∀(i:Nat) e m,es2'[i]?=some e→arr'.toList[i]?=some m→sT P g w id e m)
  (tk:arr'.toList.Pairwise fun x y=>x.born<y.born) (bz:∀m∈arr'.toList,m.born<n') (Zy:es2.Pairwise fun x y=>cI x.1 y.1=false) (qf:∀e∈es2,e2 az e.1=true)
  (lL:n'=n→∀m∈arr'.toList,∃iI∈arr.toList,iI.born=m.born∧iI.key=m.key) :
  dj g w g (iH w b arr' n')∧Rel P gl N g { s with heap:=s.heap.set id (.map n' es2) } a (iH w b arr' n'):=by
 have aK:GhLe g g:=⟨fun _ _ _ h=>h,fun _ _ h=>h⟩
 have ab:Kept g w g (iH w b arr' n') fun o=>o≠.bt id:=fun k ab=>⟨rfl,tj (fun e=>ab (by rw [e,A.own])),fun _=>rfl⟩
 refine ⟨⟨aK,fun k ab=>⟨ab,tj (fun e=>by rw [e,A.own] at ab;cases ab),fun _=>rfl⟩,by rw [Mp];exact Nat.le_refl _,rfl,rfl⟩,?_⟩
 refine ⟨h.sorted,h.size,h.defers,fun t e he=>(h.env t e he).kept aK ab (by simp) (by simp) (by simp),fun eP bt bh=>?_,fun k off v ax=>?_,fun k ab=>by rw [Mp];exact h.own k ab,h.e4,fun i b av=>by simpa using h.er i b av⟩
 ·simp only at bh
  rw [List.getElem?_set] at bh
  split at bh
  ·rename_i e;subst e
   split at bh
   ·simp at bh;subst bh
    refine ⟨b,ah,arr',CK A.k6,A.own,⟨es2',Zx,hlen,fun i e m he hm=>?_⟩,tk,bz,Zy,az,qf⟩
    obtain ⟨aG,aJ,bo,cd⟩:=CM i e m he hm
    exact ⟨aG,aJ,bo,cd.kept aK ab (by simp)⟩
   ·cases bh
  ·rename_i e
   exact (h.heap eP bt bh).Zw (fun h=>e h.symm) ah A.own A.k6 a1 lL
 ·have cF:=h.dY k off v ax
  by_cases e:k=b
  ·subst e
   unfold World.cell? at cF
   rw [A.k6] at cF;simp at cF
  ·unfold World.cell? at cF ⊢
   rw [tj e];exact cF
section
variable {id b n:Nat} {es b9:List (AV×AV)} {az:List Nat} {arr:Array MapEntry}
def kC (kk x:AV) (e:AV×AV):AV×AV:=if cI kk e.1=true then (e.1,x) else e
theorem CN {kk x:AV}:∀{es:List (AV×AV)},es.Pairwise (fun e bH=>cI kk e.1=true→cI kk bH.1=false)→oR es kk x=es.map (kC kk x)
 | [],_=>rfl
 | (k,u)::r,h=>by
  obtain ⟨R,aa⟩:=List.pairwise_cons.1 h
  simp only [oR,List.map_cons,kC]
  by_cases ab:cI kk k=true
  ·simp only [ab,if_true,List.cons.injEq,true_and]
   have:∀e∈r,kC kk x e=e:=fun e he=>by simp [kC,R e he ab]
   rw [List.map_congr_left this];simp
  ·simp only [ab,Bool.false_eq_true,if_false,CN aa]
theorem Mq {kk:AV}:∀{es:List (AV×AV)},es.Pairwise (fun e bH=>cI kk e.1=true→cI kk bH.1=false)→re es kk=es.filter (fun e=>!cI kk e.1)
 | [],_=>rfl
 | (k,u)::r,h=>by
  obtain ⟨R,aa⟩:=List.pairwise_cons.1 h
  simp only [re,List.filter_cons]
  by_cases ab:cI kk k=true
  ·simp only [ab,if_true,Bool.not_true,Bool.false_eq_true,if_false]
   rw [List.filter_eq_self.2]
   intro e he
   simp [R e he ab]
  ·simp only [ab,Bool.false_eq_true,if_false,Mq aa]
   simp
theorem tl {kk x:AV}:∀{es:List (AV×AV)},(sR es kk x).Perm ((kk,x)::es)
 | []=>.refl _
 | (k,u)::r=>by
  simp only [sR]
  split
  ·exact .refl _
  ·exact ((tl (es:=r)).cons _).trans (.swap _ _ _)
theorem hk.once (A:hk P g w id b n es az arr b9) {kk:AV} {v:Value} (aP:e2 az kk=true) (ax:aU g kk v) :
  (∀e∈es,cI kk e.1=true↔kk=e.1)∧∀l:List (AV×AV),l.Perm es→l.Pairwise (fun e bH=>cI kk e.1=true→cI kk bH.1=false):=by
 have R:∀e∈es,cI kk e.1=true↔kk=e.1:=fun e he=>by
  obtain ⟨_,m,_,_,q⟩:=A.pc he
  exact vO aP (A.fit e he) (aU.key (γ:=g.γ) aP ax) (aU.key (γ:=g.γ) (A.fit e he) q.1)
 refine ⟨R,fun l aN=>?_⟩
 have:l.Pairwise fun x y=>x.1≠y.1:=(aN.symm.pairwise_iff (fun {x y} (h:x.1≠y.1)=>h.symm)).1 A.ne
 refine List.Pairwise.imp_of_mem ?_ this
 intro x y ai aT yG ab
 cases bc:cI kk y.1 with
 | false=>rfl
 | true=>exact absurd (((R x (aN.mem_iff.1 ai)).1 ab).symm.trans ((R y (aN.mem_iff.1 aT)).1 bc)) yG
theorem CO {kk x y:AV}:∀{l:List (AV×AV)} {j:Nat},l[j]?=some (kk,y)→cI kk kk=true→l.Pairwise (fun e bH=>cI kk e.1=true→cI kk bH.1=false)→l.set j (kk,x)=l.map (kC kk x)
 | [],j,h,_,_=>by simp at h
 | e::r,0,h,ab,ao=>by
  simp at h;subst h
  obtain ⟨R,aa⟩:=List.pairwise_cons.1 ao
  simp only [List.set_cons_zero,List.map_cons,kC,ab,if_true,List.cons.injEq,true_and]
  have:∀e∈r,kC kk x e=e:=fun e he=>by simp [kC,R e he ab]
  rw [List.map_congr_left this];simp
 | e::r,j+1,h,ab,ao=>by
  obtain ⟨R,aa⟩:=List.pairwise_cons.1 ao
  simp only [List.set_cons_succ,List.map_cons,List.cons.injEq]
  have hm:(kk,y)∈r:=List.mem_of_getElem? (by simpa using h)
  refine ⟨?_,CO (j:=j) (by simpa using h) ab aa⟩
  cases he:cI kk e.1 with
  | false=>simp [kC,he]
  | true=>have:=R _ hm he;simp only at this;rw [ab] at this;cases this
theorem erase_filter {kk y:AV}:∀{l:List (AV×AV)} {j:Nat},l[j]?=some (kk,y)→cI kk kk=true→l.Pairwise (fun e bH=>cI kk e.1=true→cI kk bH.1=false)→l.eraseIdx j=l.filter (fun e=>!cI kk e.1)
 | [],j,h,_,_=>by simp at h
 | e::r,0,h,ab,ao=>by
  simp at h;subst h
  obtain ⟨R,aa⟩:=List.pairwise_cons.1 ao
  simp only [List.eraseIdx_cons_zero,List.filter_cons,ab,Bool.not_true,Bool.false_eq_true,if_false]
  rw [List.filter_eq_self.2]
  intro e he
  simp [R e he ab]
 | e::r,j+1,h,ab,ao=>by
  obtain ⟨R,aa⟩:=List.pairwise_cons.1 ao
  have hm:(kk,y)∈r:=List.mem_of_getElem? (by simpa using h)
  have he:cI kk e.1=false:=by
   cases he:cI kk e.1 with
   | false=>rfl
   | true=>have:=R _ hm he;simp only at this;rw [ab] at this;cases this
  simp only [List.eraseIdx_cons_succ,List.filter_cons,he,Bool.not_false,if_true,List.cons.injEq,true_and]
  exact erase_filter (by simpa using h) ab aa
theorem hk.self {kk:AV} {v:Value} (aP:e2 az kk=true) (ax:aU g kk v):cI kk kk=true :=
 (qi aP aP (aU.key (γ:=g.γ) aP ax) (aU.key (γ:=g.γ) aP ax)).1.2 rfl
theorem CP {arr:Array MapEntry} (j:Nat) (f:MapEntry→MapEntry) (i:Nat):(arr.modify j f).toList[i]?=if j=i then arr.toList[i]?.map f else arr.toList[i]?:=by
 simp only [Array.getElem?_toList,Array.getElem?_modify]
theorem Zz {l cx:List MapEntry} (h:l.Pairwise fun x y=>x.born<y.born) (he:cx.map (·.born)=l.map (·.born)):cx.Pairwise fun x y=>x.born<y.born:=by
 have R:(l.map (·.born)).Pairwise (·<·):=List.pairwise_map.2 h
 rw [←he] at R
 exact List.pairwise_map.1 R
theorem Mr {x:AV} (h:e2 az x=true):fA x=true:=by
 rcases pb h with ⟨l,rfl,_⟩ | ⟨cs,rfl,_,al,aY⟩
 ·rfl
 ·simp only [fA,List.all_eq_true]
  intro c af
  rcases aY (jz c) (by rw [←al];exact List.mem_map.2 ⟨c,af,rfl⟩) with ab | ab
  ·obtain ⟨l,rfl⟩:=vM ab;rfl
  ·obtain ⟨l,rfl⟩:=vN ab;rfl
def vR (P:Program) (o:Oper) (az:List Nat) (m k v:aq):Bool:=o.dst==none &&
 (match o.op with
  | .mapUpdate t gH k' bP=>cA gH m&&cA k' k&&cA bP v&&(match P.underlying t with | some (.map db _)=>nd P db az | _=>false)
  | _=>false)
theorem ZA {t db fi:TypeId} {b n j:Nat} {arr:Array MapEntry} {m:MapEntry} {k x v:Value} (hu:P.underlying t=some (.map db fi)) (ah:w.heap[b]?=some (.map arr n))
  (R:∀em,(Instr.checkKey em 10000 db k).run P w=.ok () w) (aa:(Instr.findKey db k arr.toList).run P w=.ok (some (j,x)) w) (hm:arr.toList[j]?=some m) (ab:m.key=k)
  (aS:(Instr.keyThatStays k k).run P w=.ok k w) :
  (Instr.mapUpdate t (.map (some b)) k v).run P w=.ok () (iH w b (arr.modify j fun e=>{ e with key:=k,val:=v }) n):=by
 have k7:((arr[j]?).map (·.key)).getD k=k:=by
  have:arr[j]?=some m:=by simpa using hm
  simp [this,ab]
 simp only [Instr.mapUpdate,Sem.run_bind,run_underlying hu,Result.andThen_ok,MapKept.run_getObj_map ah,R,aa,k7,aS,MapKept.run_setObj_map _ ah,iH]
theorem ZB {t db fi:TypeId} {b n:Nat} {arr:Array MapEntry} {k v:Value} (hu:P.underlying t=some (.map db fi)) (ah:w.heap[b]?=some (.map arr n))
  (R:∀em,(Instr.checkKey em 10000 db k).run P w=.ok () w) (aa:(Instr.findKey db k arr.toList).run P w=.ok none w) :
  (Instr.mapUpdate t (.map (some b)) k v).run P w=.ok () (iH w b (arr.push { key:=k,val:=v,born:=n }) (n+1)):=by
 simp only [Instr.mapUpdate,Sem.run_bind,run_underlying hu,Result.andThen_ok,MapKept.run_getObj_map ah,R,aa,MapKept.run_setObj_map _ ah,iH]
theorem Ms (h:Rel P gl N g s a w) (ah:g.b4 id=some b) (A:hk P g w id b n es az arr b9) {t db fi:TypeId} (hu:P.underlying t=some (.map db fi)) (ab:nd P db az=true)
  {kk x:AV} {iJ v:Value} (aP:e2 az kk=true) (eL:aU g kk iJ) (ai:aU g x v) (aE:∀born,(gP es kk=none→born=n)→(∀(j:Nat) y m,gP es kk=some y→b9[j]?=some (kk,y)→arr.toList[j]?=some m→born=m.born)→dX P g w (.oc id born) x v) :
  ∃w',(Instr.mapUpdate t (.map (some b)) iJ v).run P w=.ok () w'∧dj g w g w'∧Rel P gl N g { s with heap:=s.heap.set id (oS n es kk x) } a w':=by
 obtain ⟨nf,j1⟩:=A.find ab aP eL
 obtain ⟨CQ,lM⟩:=A.once aP eL
 have iK:cI kk kk=true:=hk.self aP eL
 rcases j1 with ⟨f1,f2,f3,f4⟩ | ⟨j,hy,y,f1,f3,f4,f5,f6,f7⟩
 ·refine ⟨_,ZB hu A.k6 nf f1,?_⟩
  have dx:=aE n (fun _=>rfl) (fun j y m aT=>by rw [f2] at aT;cases aT)
  have:=h.yI (n':=n+1) (es2:=sR es kk x) (es2':=b9++[(kk,x)]) (arr':=arr.push { key:=iJ,val:=v,born:=n }) ah A (by omega)
   ((List.perm_append_comm.trans (A.perm.cons _)).trans tl.symm) (by simp [A.len]) (fun i e m he hm=>by
    simp only [Array.toList_push] at hm
    by_cases av:i<b9.length
    ·rw [List.getElem?_append_left av] at he
     rw [List.getElem?_append_left (by rw [←A.len];exact av)] at hm
     exact A.at_ i e m he hm
    ·rw [List.getElem?_append_right (by omega)] at he
     rw [List.getElem?_append_right (by rw [←A.len];omega)] at hm
     have bx:i - b9.length=0:=by
      have:=(List.getElem?_eq_some_iff.1 he).1;simp at this;omega
     rw [←A.len] at hm
     rw [bx] at he hm
     simp at he hm;subst he hm
     exact ⟨eL,Mr aP,ai,dx⟩)
   (by
    simp only [Array.toList_push]
    refine List.pairwise_append.2 ⟨A.born,by simp,fun x ai y aT=>?_⟩
    simp at aT;subst aT;exact A.lt x ai)
   (fun m hm=>by
    simp only [Array.toList_push,List.mem_append,List.mem_singleton] at hm
    rcases hm with hm | rfl
    ·have:=A.lt m hm;omega
    ·simp)
   (by
    have aqL:((kk,x)::es).Pairwise fun x y=>cI x.1 y.1=false:=List.pairwise_cons.2 ⟨fun e he=>f3 e he,A.uniq⟩
    have ZC:((kk,x)::es).Pairwise fun x y=>x.1≠y.1:=List.pairwise_cons.2 ⟨(fun e he Mt=>by
     have:=f3 e he;simp only at Mt;rw [(CQ e he).2 Mt] at this;cases this),A.ne⟩
    have ZD:(sR es kk x).Pairwise fun x y=>x.1≠y.1:=(tl.symm.pairwise_iff (fun {x y} (h:x.1≠y.1)=>h.symm)).1 ZC
    refine List.Pairwise.imp_of_mem ?_ ZD
    intro p q ao bL CR
    have qf:∀p∈(kk,x)::es,e2 az p.1=true∧∃v,cp g.γ p.1 v:=fun p ao=>by
     rcases List.mem_cons.1 ao with rfl | ao
     ·exact ⟨aP,iJ,aU.key aP eL⟩
     ·obtain ⟨_,m,_,_,q⟩:=A.pc ao;exact ⟨A.fit p ao,m.key,aU.key (A.fit p ao) q.1⟩
    obtain ⟨de,v1,dR⟩:=qf p (tl.mem_iff.1 ao)
    obtain ⟨e5,v2,eQ⟩:=qf q (tl.mem_iff.1 bL)
    cases bc:cI p.1 q.1 with
    | false=>rfl
    | true=>exact absurd ((vO de e5 dR eQ).1 bc) CR)
   (fun e he=>by
    rcases List.mem_cons.1 (tl.mem_iff.1 he) with rfl | he
    ·exact aP
    ·exact A.fit e he)
   (fun h=>by omega)
  simp only [oS,f2]
  exact this
 ·have ZE:(Instr.keyThatStays iJ iJ).run P w=.ok iJ w:=by
   obtain ⟨l,aN⟩:=yF ab aP (aU.key (γ:=g.γ) aP eL)
   exact (CC ab).stays w aN
  refine ⟨_,ZA hu A.k6 nf f1 f3 f4 ZE,?_⟩
  have dx:=aE hy.born (fun h=>by rw [f6] at h;cases h) (fun ir fc gH aT a6 hm=>by
   have CS:ir=j:=by
    have R:=lM b9 A.perm
    rcases Nat.lt_trichotomy ir j with bz | he | bz
    ·have:=List.pairwise_iff_getElem.1 R ir j (List.getElem?_eq_some_iff.1 a6).1 (List.getElem?_eq_some_iff.1 f5).1 bz
     rw [(List.getElem?_eq_some_iff.1 a6).2,(List.getElem?_eq_some_iff.1 f5).2] at this
     simp only [iK,forall_const] at this;cases this
    ·exact he
    ·have:=List.pairwise_iff_getElem.1 R j ir (List.getElem?_eq_some_iff.1 f5).1 (List.getElem?_eq_some_iff.1 a6).1 bz
     rw [(List.getElem?_eq_some_iff.1 a6).2,(List.getElem?_eq_some_iff.1 f5).2] at this
     simp only [iK,forall_const] at this;cases this
   subst CS;rw [f3] at hm;simp at hm;rw [hm])
  have mn:=CO (kk:=kk) (x:=x) f5 iK (lM b9 A.perm)
  have o8:=CN (kk:=kk) (x:=x) (lM es (.refl _))
  have CT:∀l:List (AV×AV),(l.map (kC kk x)).map (·.1)=l.map (·.1):=fun l=>by
   rw [List.map_map]
   refine List.map_congr_left fun e _=>?_
   simp only [Function.comp,kC];split<;>rfl
  have tk:(arr.modify j fun e=>{ e with key:=iJ,val:=v }).toList.map (·.born)=arr.toList.map (·.born):=by
   apply List.ext_getElem?
   intro i
   simp only [List.getElem?_map,CP]
   split
   ·cases arr.toList[i]?<;>rfl
   ·rfl
  have:=h.yI (n':=n) (es2:=oR es kk x) (es2':=b9.set j (kk,x)) (arr':=arr.modify j fun e=>{ e with key:=iJ,val:=v }) ah A (Nat.le_refl _)
   (by rw [mn,o8];exact A.perm.map _) (by simp [A.len]) (fun i e m he hm=>by
    rw [CP] at hm
    rw [List.getElem?_set] at he
    by_cases gn:j=i
    ·subst gn
     simp only [if_true,f3,Option.map_some,Option.some.injEq] at hm
     have bz:j<b9.length:=(List.getElem?_eq_some_iff.1 f5).1
     simp only [if_true,bz,Option.some.injEq] at he
     subst he hm
     exact ⟨eL,Mr aP,ai,dx⟩
    ·simp only [gn,if_false] at he hm
     exact A.at_ i e m he hm)
   (Zz A.born tk)
   (fun m hm=>by
    have:m.born∈(arr.modify j fun e=>{ e with key:=iJ,val:=v }).toList.map (·.born):=List.mem_map.2 ⟨m,hm,rfl⟩
    rw [tk] at this
    obtain ⟨iI,a0,R⟩:=List.mem_map.1 this
    rw [←R];exact A.lt iI a0)
   (by
    have R:(es.map (·.1)).Pairwise fun x y=>cI x y=false:=List.pairwise_map.2 A.uniq
    rw [o8]
    rw [←CT es] at R
    exact List.pairwise_map.1 R)
   (fun e he=>by
    rw [o8] at he
    obtain ⟨bB,a0,rfl⟩:=List.mem_map.1 he
    have:=A.fit bB a0
    simp only [kC];split<;>exact this)
   (fun _ m hm=>by
    obtain ⟨i,av,n4⟩:=List.getElem_of_mem hm
    have R:(arr.modify j fun e=>{ e with key:=iJ,val:=v }).toList[i]?=some m:=by rw [List.getElem?_eq_getElem av,n4]
    rw [CP] at R
    split at R
    ·rename_i gn;subst gn
     rw [f3] at R;simp at R;subst R
     exact ⟨hy,List.mem_of_getElem? f3,rfl,f4⟩
    ·exact ⟨m,List.mem_of_getElem? R,rfl,rfl⟩)
  simp only [oS,f6]
  exact this
end
end
end AM
/-! The simulation of maps: updates, deletions, lookups that take. -/
namespace AM
open Go Go.Maps
section
variable {P:Program} {gl:aR} {N:Nat} {g g':a5} {s s':ae} {a:Act} {w w':World} {o:Oper} {γ dq:dp}
theorem ZF {az:List Nat} {m k v:aq} (h:Rel P gl N g s a w) (af:vR P o az m k v=true) (he:au gl s (.iT az m k v)=some s'):cJ P gl N o g a w s':=by
 simp only [vR,Bool.and_eq_true,beq_iff_eq] at af
 obtain ⟨aw,aD⟩:=af
 split at aD
 ·rename_i t gH k' bP aE
  simp only [Bool.and_eq_true] at aD
  obtain ⟨⟨⟨hm,ab⟩,ax⟩,aD⟩:=aD
  split at aD
  ·rename_i db fi hu
   simp only [au] at he
   split at he
   ·rename_i id kk x aB aI dS
    split at he
    ·rename_i n es bG
     split at he
     ·rename_i aP
      simp only [Bool.and_eq_true] at aP
      simp at he;subst he
      obtain ⟨b,bf,bu⟩:=h.heap _ _ bG
      obtain ⟨arr,b9,A⟩:=bu.at aP.2
      obtain ⟨bE,an,ar⟩:=(ca h hm aB).oX
      rw [bf] at an;simp at an;subst an
      obtain ⟨w',aG,aJ,bo⟩:=Ms h bf A hu aD aP.1 (ca h ab aI) (ca h ax dS).aL (fun _ _ _=>cc.fo (cc.aL x))
      refine ⟨undef,w',g,.inr ⟨?_,rfl⟩,aJ,?_⟩
      ·simp only [execOp,aE,ar,Sem.run_bind,aG,Result.andThen_ok,Sem.run_pure]
      ·rw [aw];exact bo
     ·cases he
    ·cases he
   ·cases he
  ·cases aD
 ·cases aD
def CU (P:Program) (o:Oper) (az:List Nat) (m k:aq) (v:Nat):Bool:=vR P o az m k (.t v)
theorem ZG {az:List Nat} {m k:aq} {v:Nat} (h:Rel P gl N g s a w) (af:CU P o az m k v=true) (he:au gl s (.lA az m k v)=some s'):cJ P gl N o g a w s':=by
 simp only [CU,vR,Bool.and_eq_true,beq_iff_eq] at af
 obtain ⟨aw,aD⟩:=af
 split at aD
 ·rename_i t gH k' bP aE
  simp only [Bool.and_eq_true] at aD
  obtain ⟨⟨⟨hm,ab⟩,ax⟩,aD⟩:=aD
  have cF:bP=.tmp v:=by unfold cA at ax;split at ax<;>simp_all
  subst cF
  split at aD
  ·rename_i db fi hu
   simp only [au] at he
   split at he
   ·rename_i id kk e sz xs aB aI qc
    split at he
    ·rename_i n es bG
     split at he
     ·rename_i aP
      simp only [Bool.and_eq_true] at aP
      obtain ⟨b,bf,bu⟩:=h.heap _ _ bG
      obtain ⟨arr,b9,A⟩:=bu.at aP.2
      obtain ⟨bE,an,ar⟩:=(ca h hm aB).oX
      rw [bf] at an;simp at an;subst an
      have eL:=ca h ab aI
      obtain ⟨al,aY⟩:=h.strip qc
      obtain ⟨u,aG,aJ,bo⟩:=h.env _ _ qc
      have jB:=yC s v sz xs
      -- the owner that the entry names
      have tk:∃born,(gP es kk=none→born=n)∧∀(j:Nat) y m,gP es kk=some y→b9[j]?=some (kk,y)→arr.toList[j]?=some m→born=m.born:=by
       obtain ⟨_,j1⟩:=A.find aD aP.1 eL
       obtain ⟨_,lM⟩:=A.once aP.1 eL
       have iK:cI kk kk=true:=hk.self aP.1 eL
       rcases j1 with ⟨_,f2,_⟩ | ⟨j,hy,y,_,f3,_,f5,f6,_⟩
       ·exact ⟨n,fun _=>rfl,fun j y m aT=>by rw [f2] at aT;cases aT⟩
       ·refine ⟨hy.born,(fun h=>by rw [f6] at h;cases h),fun ir fc gH aT a6 hm=>?_⟩
        have CS:ir=j:=by
         have R:=lM b9 A.perm
         rcases Nat.lt_trichotomy ir j with bz | he | bz
         ·have:=List.pairwise_iff_getElem.1 R ir j (List.getElem?_eq_some_iff.1 a6).1 (List.getElem?_eq_some_iff.1 f5).1 bz
          rw [(List.getElem?_eq_some_iff.1 a6).2,(List.getElem?_eq_some_iff.1 f5).2] at this
          simp only [iK,forall_const] at this;cases this
         ·exact he
         ·have:=List.pairwise_iff_getElem.1 R j ir (List.getElem?_eq_some_iff.1 f5).1 (List.getElem?_eq_some_iff.1 a6).1 bz
          rw [(List.getElem?_eq_some_iff.1 a6).2,(List.getElem?_eq_some_iff.1 f5).2] at this
          simp only [iK,forall_const] at this;cases this
        subst CS;rw [f3] at hm;simp at hm;rw [hm]
      obtain ⟨born,gC,fG⟩:=tk
      have Ca:∃g',dj g w g' w∧Rel P gl N g' { s with env:=s.env.ins v (.v (.list none sz xs)) } a w∧dX P g' w (.oc id born) (.list (some e) sz xs) u:=by
       cases ah:u.ownBlock with
       | none=>exact ⟨g,dj.refl _ _,aY,bo.free ah⟩
       | some b =>
        obtain ⟨j2,z,vs,bK,cg,cS,eC,eK,iY,vA,iG,hv⟩:=bo e sz xs rfl
        obtain ⟨et,ey⟩:=aY.pass (.var v) (.oc id born) jB (by simp) (hv b ah).1 (by simp)
        exact ⟨_,et,ey,bo.pass b ah⟩
      obtain ⟨g',et,ey,hi⟩:=Ca
      obtain ⟨eQ,s1,s2⟩:=ey.heap _ _ bG
      have:eQ=b:=by have:=et.b4 _ _ bf;rw [s1] at this;simpa using this
      subst this
      obtain ⟨qk,es2',yJ⟩:=s2.at aP.2
      have rC:qk=arr:=by have:=yJ.k6;rw [A.k6] at this;simp at this;exact this.symm
      subst rC
      have Mu:=eL.mono et.toGhLe
      -- the two ways to lay the entries side by side agree at this key
      have ZH:∀(j:Nat) y m,gP es kk=some y→es2'[j]?=some (kk,y)→qk.toList[j]?=some m→born=m.born:=by
       intro j y m aT a6 hN
       obtain ⟨_,j1⟩:=A.find aD aP.1 eL
       rcases j1 with ⟨_,f2,_⟩ | ⟨e6,hy,eA,_,f3,f4,f5,f6,f7⟩
       ·rw [f2] at aT;cases aT
       ·have mq:=fG e6 eA hy f6 f5 f3
        have aA:=yJ.at_ j _ _ a6 hN
        have ZI:m.key=hy.key:=by
         have:=(qi aP.1 aP.1 (aU.key (γ:=g'.γ) aP.1 aA.1) (aU.key (γ:=g.γ) aP.1 eL)).2.1 rfl
         rw [this,f4]
        -- keys of the block differ
        have Mv:e6<b9.length:=(List.getElem?_eq_some_iff.1 f5).1
        have ck:∀ir gH,qk.toList[ir]?=some gH→gH.key=hy.key→ir=e6:=by
         intro ir gH k7 fp
         have lF:ir<b9.length:=by rw [A.len];exact (List.getElem?_eq_some_iff.1 k7).1
         have iZ:=A.at_ ir b9[ir] gH (by simp [lF]) k7
         have Mw:=A.fit _ (A.perm.mem_iff.1 (List.getElem_mem lF))
         have Mx:kk=b9[ir].1:=(qi aP.1 Mw (aU.key (γ:=g.γ) aP.1 eL) (aU.key (γ:=g.γ) Mw iZ.1)).2.2 (by rw [fp,f4])
         have iK:cI kk kk=true:=hk.self aP.1 eL
         obtain ⟨_,lM⟩:=A.once aP.1 eL
         have R:=lM b9 A.perm
         rcases Nat.lt_trichotomy ir e6 with bz | he | bz
         ·have:=List.pairwise_iff_getElem.1 R ir e6 lF Mv bz
          rw [(List.getElem?_eq_some_iff.1 f5).2,←Mx] at this
          simp only [iK,forall_const] at this;cases this
         ·exact he
         ·have:=List.pairwise_iff_getElem.1 R e6 ir Mv lF bz
          rw [(List.getElem?_eq_some_iff.1 f5).2,←Mx] at this
          simp only [iK,forall_const] at this;cases this
        have:=ck j m hN ZI
        subst this
        rw [f3] at hN;simp at hN;rw [mq,hN]
      obtain ⟨w',t1,t2,t3⟩:=Ms (x:=.list (some e) sz xs) (v:=u) ey s1 yJ hu aD aP.1 Mu (aJ.mono et.toGhLe) (fun ZJ cf cY=>by
       have:ZJ=born:=by
        cases aK:gP es kk with
        | none=>rw [cf aK,gC aK]
        | some y =>
         obtain ⟨_,j1⟩:=yJ.find aD aP.1 Mu
         rcases j1 with ⟨_,f2,_⟩ | ⟨e6,hy,eA,_,f3,f4,f5,f6,f7⟩
         ·rw [f2] at aK;cases aK
         ·rw [cY e6 eA hy f6 f5 f3,ZH e6 eA hy f6 f5 f3]
       subst this;exact hi)
      have ng:({ s with heap:=s.heap.set id (oS n es kk (.list (some e) sz xs)) }:ae).put v (.list none sz xs)=some { env:=s.env.ins v (.v (.list none sz xs)),heap:=s.heap.set id (oS n es kk (.list (some e) sz xs)) }:=by
       simp [ae.put,c9,qc]
      rw [ng] at he;simp at he;subst he
      refine ⟨undef,w',g',.inr ⟨?_,rfl⟩,et.trans t2,?_⟩
      ·have cD:a.eval (.tmp v)=u:=by simp [Act.eval,aG]
       simp only [execOp,aE,ar,cD,Sem.run_bind,t1,Result.andThen_ok,Sem.run_pure]
      ·rw [aw];exact t3
     ·cases he
    ·cases he
   ·cases he
  ·cases aD
 ·cases aD
def CV (P:Program) (N:Nat) (o:Oper) (az:List Nat) (d:Option Nat) (m k:aq):Bool:=(match d with | some d=>b2 N o d | none=>o.dst==none) &&
 (match m3 o.op with
  | some (.delete,[gH,k'],t::_)=>cA gH m&&cA k' k&&(match P.underlying t with | some (.map db _)=>nd P db az | _=>false)
  | _=>false)
theorem ZK {t ty db fi:TypeId} {bk:List TypeId} {b n j:Nat} {arr:Array MapEntry} {k x:Value} (hu:P.underlying t=some (.map db fi)) (ah:w.heap[b]?=some (.map arr n))
  (R:∀em,(Instr.checkKey em 10000 db k).run P w=.ok () w) (aa:(Instr.findKey db k arr.toList).run P w=.ok (some (j,x)) w) :
  (Builtin.delete_ (t::bk).toArray ty #[.map (some b),k]).run P w=.ok (.tuple #[]) (iH w b (arr.eraseIdxIfInBounds j) n):=by
 have bB:((t::bk).toArray[0]?:Option TypeId)=some t:=by simp
 simp only [Builtin.delete_,bB,List.getElem?_toArray,List.getElem?_cons_zero,List.getElem?_cons_succ,Sem.run_bind,run_underlying hu,Result.andThen_ok,MapKept.run_getObj_map ah,R,aa,MapKept.run_setObj_map _ ah,Sem.run_pure,iH]
theorem ZL {t ty db fi:TypeId} {bk:List TypeId} {b n:Nat} {arr:Array MapEntry} {k:Value} (hu:P.underlying t=some (.map db fi)) (ah:w.heap[b]?=some (.map arr n))
  (R:∀em,(Instr.checkKey em 10000 db k).run P w=.ok () w) (aa:(Instr.findKey db k arr.toList).run P w=.ok none w) :
  (Builtin.delete_ (t::bk).toArray ty #[.map (some b),k]).run P w=.ok (.tuple #[]) (iH w b arr n):=by
 have bB:((t::bk).toArray[0]?:Option TypeId)=some t:=by simp
 simp only [Builtin.delete_,bB,List.getElem?_toArray,List.getElem?_cons_zero,List.getElem?_cons_succ,Sem.run_bind,run_underlying hu,Result.andThen_ok,MapKept.run_getObj_map ah,R,aa,MapKept.run_setObj_map _ ah,Sem.run_pure,iH]
theorem filter_none {kk:AV} {es:List (AV×AV)} (h:∀e∈es,cI kk e.1=false):es.filter (fun e=>!cI kk e.1)=es:=List.filter_eq_self.2 fun e he=>by simp [h e he]
theorem ZM {id b n:Nat} {es b9:List (AV×AV)} {az:List Nat} {arr:Array MapEntry} (h:Rel P gl N g s a w) (ah:g.b4 id=some b) (A:hk P g w id b n es az arr b9) {t db fi:TypeId} (hu:P.underlying t=some (.map db fi)) (ab:nd P db az=true)
  {kk:AV} {iJ:Value} (aP:e2 az kk=true) (eL:aU g kk iJ) (ty:TypeId) (bk:List TypeId) :
  ∃w',(Builtin.delete_ (t::bk).toArray ty #[.map (some b),iJ]).run P w=.ok (.tuple #[]) w'∧dj g w g w'∧Rel P gl N g { s with heap:=s.heap.set id (.map n (re es kk)) } a w':=by
 obtain ⟨nf,j1⟩:=A.find ab aP eL
 obtain ⟨CQ,lM⟩:=A.once aP eL
 have iK:cI kk kk=true:=hk.self aP eL
 have yK:=Mq (kk:=kk) (lM es (.refl _))
 rcases j1 with ⟨f1,f2,f3,f4⟩ | ⟨j,hy,y,f1,f3,f4,f5,f6,f7⟩
 ·refine ⟨_,ZL hu A.k6 nf f1,?_⟩
  rw [yK,filter_none f3]
  exact h.yI ah A (Nat.le_refl _) A.perm A.len A.at_ A.born A.lt A.uniq A.fit (fun _ m hm=>⟨m,hm,rfl,rfl⟩)
 ·refine ⟨_,ZK hu A.k6 nf f1,?_⟩
  have bz:j<arr.size:=by have:=(List.getElem?_eq_some_iff.1 f3).1;simpa using this
  have CW:(arr.eraseIdxIfInBounds j).toList=arr.toList.eraseIdx j:=by
   simp [Array.eraseIdxIfInBounds,bz]
  have lL:List.Sublist (arr.eraseIdxIfInBounds j).toList arr.toList:=by rw [CW];exact List.eraseIdx_sublist _ _
  have ZN:=erase_filter (kk:=kk) (j:=j) f5 iK (lM b9 A.perm)
  have:=h.yI (n':=n) (es2:=re es kk) (es2':=b9.eraseIdx j) (arr':=arr.eraseIdxIfInBounds j) ah A (Nat.le_refl _)
   (by rw [ZN,yK];exact A.perm.filter _)
   (by rw [CW];simp only [List.length_eraseIdx,A.len])
   (fun i e m he hm=>by
    rw [CW] at hm
    rw [List.getElem?_eraseIdx] at he hm
    split at he
    ·rename_i av;rw [if_pos av] at hm;exact A.at_ _ e m he hm
    ·rename_i av;rw [if_neg av] at hm;exact A.at_ _ e m he hm)
   (A.born.sublist lL) (fun m hm=>A.lt m (lL.subset hm))
   (by rw [yK];exact A.uniq.sublist List.filter_sublist)
   (fun e he=>by rw [yK] at he;exact A.fit e (List.mem_filter.1 he).1)
   (fun _ m hm=>⟨m,lL.subset hm,rfl,rfl⟩)
  exact this
theorem ZO {az:List Nat} {d:Option Nat} {m k:aq} (h:Rel P gl N g s a w) (af:CV P N o az d m k=true) (he:au gl s (.kW az d m k)=some s'):cJ P gl N o g a w s':=by
 simp only [CV,Bool.and_eq_true] at af
 obtain ⟨aw,aD⟩:=af
 split at aD
 ·rename_i gH k' t bk ZP
  simp only [Bool.and_eq_true] at aD
  obtain ⟨⟨hm,ab⟩,aD⟩:=aD
  split at aD
  ·rename_i db fi hu
   simp only [au] at he
   split at he
   ·rename_i id kk aB aI
    split at he
    ·rename_i n es bG
     split at he
     ·rename_i aP
      simp only [Bool.and_eq_true] at aP
      obtain ⟨b,bf,bu⟩:=h.heap _ _ bG
      obtain ⟨arr,b9,A⟩:=bu.at aP.2
      obtain ⟨bE,an,ar⟩:=(ca h hm aB).oX
      rw [bf] at an;simp at an;subst an
      obtain ⟨w',aG,aJ,bo⟩:=ZM h bf A hu aD aP.1 (ca h ab aI) o.type bk
      refine ⟨.tuple #[],w',g,.inl ?_,aJ,?_⟩
      ·obtain ⟨nZ,bM⟩:=m4 (o:=o) ZP rfl a.eval
       rw [bM]
       simp only [List.map_cons,List.map_nil,builtin,ar,Sem.run_bind,aG,Result.andThen_ok,Sem.run_pure]
      ·cases d with
       | none =>
        simp [ae.ef] at he;subst he
        simp only [beq_iff_eq] at aw
        rw [aw];exact bo
       | some d =>
        simp only [b2,Bool.and_eq_true,beq_iff_eq,decide_eq_true_eq] at aw
        rw [aw.1]
        exact bo.put he aw.2 (.bw _ [] .nil) (.jX fun _ _ _ h=>by simp at h)
     ·cases he
    ·cases he
   ·cases he
  ·cases aD
 ·cases aD
def CX (P:Program) (N:Nat) (o:Oper) (az:List Nat) (d:Nat) (m k:aq) (zero:AV):Bool:=b2 N o d &&
 (match o.op,zero with
  | .lookup t gH k' false,.list (some e) sz []=>cA gH m&&cA k' k&&hf P e sz &&
   (match P.underlying t with | some (.map db fi)=>nd P db az&&(match P.info? fi with | some i=>(match i.zero with | some (.slice none 0 0)=>true | _=>false) | none=>false) | _=>false)
  | _,_=>false)
theorem Rel.ZQ {id b n:Nat} {es b9:List (AV×AV)} {az:List Nat} {arr:Array MapEntry} (h:Rel P gl N g s a w) (ah:g.b4 id=some b) (A:hk P g w id b n es az arr b9)
  {kk:AV} {iJ:Value} (aP:e2 az kk=true) (eL:aU g kk iJ) {j e sz:Nat} {xs:List AV} {hy:MapEntry} (a6:b9[j]?=some (kk,.list (some e) sz xs)) (hm:arr.toList[j]?=some hy) {d:Nat} (aw:d<N)
  (ao:({ s with heap:=s.heap.set id (.map n (oR es kk (.list none sz xs))) }:ae).put d (.list (some e) sz xs)=some s') :
  ∃g',dj g w g' w∧Rel P gl N g' s' (a.put (some d) hy.val) w:=by
 obtain ⟨CQ,lM⟩:=A.once aP eL
 have iK:cI kk kk=true:=hk.self aP eL
 obtain ⟨cf,cY,eS,fJ⟩:=A.at_ j _ _ a6 hm
 have mn:=CO (kk:=kk) (x:=.list none sz xs) a6 iK (lM b9 A.perm)
 have o8:=CN (kk:=kk) (x:=.list none sz xs) (lM es (.refl _))
 -- the state without what is owned
 have My:∀g',GhLe g g'→(∀hO,g.bd hO≠.oc id hy.born→g'.bd hO=g.bd hO)→(∀hO,g'.bd hO≠.none→g.bd hO≠.none)→g'.γ=g.γ→g'.b4=g.b4 →
   Rel P gl N g' { s with heap:=s.heap.set id (.map n (oR es kk (.list none sz xs))) } a w:=by
  intro g' aK jb CY fI Mz
  have ab:Kept g w g' w fun o=>o≠.oc id hy.born:=fun hO CZ=>⟨jb hO CZ,rfl,fun o=>by rw [fI]⟩
  refine ⟨h.sorted,h.size,h.defers,fun t e he=>(h.env t e he).kept aK ab (by simp) (by simp) (by simp),fun eP bt bh=>?_,fun b off v ax=>h.dY b off v (by rw [←fI];exact ax),fun hO CZ=>h.own hO (CY hO CZ),fun n x ai=>by rw [fI];exact h.e4 n x ai,fun i b av=>by rw [Mz] at av;simpa using h.er i b av⟩
  simp only at bh
  rw [List.getElem?_set] at bh
  split at bh
  ·rename_i bB;subst bB
   split at bh
   ·simp at bh;subst bh
    refine ⟨b,by rw [Mz];exact ah,arr,A.k6,by rw [jb b (by rw [A.own];simp)];exact A.own,⟨b9.set j (kk,.list none sz xs),by rw [mn,o8];exact A.perm.map _,by simp [A.len],fun i bB m he n4=>?_⟩,A.born,A.lt,?_,az,?_⟩
    ·rw [List.getElem?_set] at he
     split at he
     ·rename_i gn;subst gn
      split at he
      ·simp at he;subst he
       rw [hm] at n4;simp at n4;subst n4
       exact ⟨cf.mono aK,cY,(eS.aL).mono aK,cc.fo (cc.none _ _)⟩
      ·cases he
     ·rename_i gn
      obtain ⟨bN,cb,ds,dz⟩:=A.at_ i bB m he n4
      refine ⟨bN.mono aK,cb,ds.mono aK,dz.kept aK ab ?_⟩
      have ck:m.born≠hy.born:=by
       have n6:=(List.getElem?_eq_some_iff.1 n4).1
       have g5:=(List.getElem?_eq_some_iff.1 hm).1
       have bX:=(List.getElem?_eq_some_iff.1 n4).2
       have bQ:=(List.getElem?_eq_some_iff.1 hm).2
       rcases Nat.lt_or_gt_of_ne gn with bz | bz
       ·have:=List.pairwise_iff_getElem.1 A.born j i g5 n6 bz
        rw [bX,bQ] at this;omega
       ·have:=List.pairwise_iff_getElem.1 A.born i j n6 g5 bz
        rw [bX,bQ] at this;omega
      simp [ck]
    ·have CT:(es.map (kC kk (.list none sz xs))).map (·.1)=es.map (·.1):=by
      rw [List.map_map]
      refine List.map_congr_left fun e _=>?_
      simp only [Function.comp,kC];split<;>rfl
     have R:(es.map (·.1)).Pairwise fun x y=>cI x y=false:=List.pairwise_map.2 A.uniq
     rw [o8]
     rw [←CT] at R
     exact List.pairwise_map.1 R
    ·intro bB th
     rw [o8] at th
     obtain ⟨aB,R,rfl⟩:=List.mem_map.1 th
     have:=A.fit aB R
     simp only [kC];split<;>exact this
   ·cases bh
  ·rename_i ck
   exact (h.heap eP bt bh).kept aK ab (by simp) (fun i=>by simp only [ne_eq,dh.oc.injEq,not_and];exact fun e=>absurd e.symm ck)
 cases n7:hy.val.ownBlock with
 | none =>
  have R:=My g ⟨fun _ _ _ h=>h,fun _ _ h=>h⟩ (fun _ _=>rfl) (fun _ h=>h) rfl rfl
  exact ⟨g,dj.refl _ _,R.put ao aw eS (fJ.free n7)⟩
 | some hO =>
  obtain ⟨i,z,vs,bK,cg,cS,eC,eK,iY,vA,iG,hv⟩:=fJ e sz xs rfl
  let g':a5:={ g with bd:=fun k=>if k=hO then .var d else g.bd k }
  have aK:GhLe g g':=⟨fun _ _ _ h=>h,fun _ _ h=>h⟩
  have jb:∀k,g.bd k≠.oc id hy.born→g'.bd k=g.bd k:=fun k ab=>by
   have:k≠hO:=by rintro rfl;exact ab (hv k n7).1
   simp [g',this]
  have R:=My g' aK jb (fun k ab=>by
   by_cases bB:k=hO
   ·subst bB;rw [(hv k n7).1];simp
   ·simpa [g',bB] using ab) rfl rfl
  refine ⟨g',⟨aK,fun k ab=>⟨by rw [jb k (by rw [ab];simp)];exact ab,rfl,fun _=>rfl⟩,Nat.le_refl _,rfl,rfl⟩,R.put ao aw (eS.mono aK) (fJ.pass hO n7)⟩
theorem ZR {az:List Nat} {d:Nat} {m k:aq} {zero:AV} (h:Rel P gl N g s a w) (af:CX P N o az d m k zero=true) (he:au gl s (.fX az d m k zero)=some s'):cJ P gl N o g a w s':=by
 simp only [CX,Bool.and_eq_true] at af
 obtain ⟨aw,aD⟩:=af
 split at aD
 ·rename_i t gH k' bB jW aE
  simp only [Bool.and_eq_true] at aD
  obtain ⟨⟨⟨hm,ab⟩,cq⟩,aD⟩:=aD
  split at aD
  ·rename_i db fi hu
   simp only [Bool.and_eq_true] at aD
   obtain ⟨vQ,bx⟩:=aD
   split at bx
   ·rename_i i av
    split at bx
    ·rename_i yH
     simp only [b2,Bool.and_eq_true,beq_iff_eq,decide_eq_true_eq] at aw
     simp only [au] at he
     split at he
     ·rename_i id kk aB aI
      split at he
      ·rename_i CJ es bG
       split at he
       ·rename_i aP
        simp only [Bool.and_eq_true] at aP
        obtain ⟨b,bf,bu⟩:=h.heap _ _ bG
        obtain ⟨arr,b9,A⟩:=bu.at aP.2
        obtain ⟨bE,an,ar⟩:=(ca h hm aB).oX
        rw [bf] at an;simp at an;subst an
        have eL:=ca h ab aI
        obtain ⟨nf,j1⟩:=A.find vQ aP.1 eL
        rcases j1 with ⟨f1,f2,_⟩ | ⟨j,hy,x,f1,f2,f3,f4,f5,f6⟩
        ·rw [f2] at he
         refine ⟨.slice none 0 0,w,g,.inl ?_,dj.refl _ _,?_⟩
         ·simp only [execOp,aE,ar,Sem.run_bind,Mm hu A.k6 nf f1 av yH,Result.andThen_ok,Sem.run_pure,Bool.false_eq_true,if_false]
         ·rw [aw.1]
          exact h.put he aw.2 (.own _ _ _ _ (.fP _ _ _ (by simp))) (vl cq _ _ _)
        ·rw [f5] at he
         split at he
         ·rename_i e sz xs ai
          simp at ai;subst ai
          obtain ⟨g',aG,aJ⟩:=h.ZQ bf A aP.1 eL f4 f2 aw.2 he
          refine ⟨hy.val,w,g',.inl ?_,aG,?_⟩
          ·simp only [execOp,aE,ar,Sem.run_bind,Ml hu A.k6 nf f1,Result.andThen_ok,Sem.run_pure,Bool.false_eq_true,if_false]
          ·rw [aw.1];exact aJ
         ·cases he
         ·rename_i ai;simp at ai
       ·cases he
      ·cases he
     ·cases he
    ·cases bx
   ·cases bx
  ·cases aD
 ·cases aD
end
end AM
