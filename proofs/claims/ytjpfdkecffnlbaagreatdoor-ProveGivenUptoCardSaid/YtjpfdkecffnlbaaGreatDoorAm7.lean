/- An abstract machine for the program of the seat, and what of the given program it does, part 8 of 17. Conditions: none. -/
import Derived.Test.YtjpfdkecffnlbaaGreatDoorAm6
import Derived.Lib.UnsafeStr
set_option linter.unusedVariables false
set_option linter.unusedSimpArgs false
/-! The simulation of clones, of strings over bytes, of functions without a body. -/
namespace AM
open Go
section
variable {P:Program} {gl:aR} {N:Nat} {g g':a5} {s s':ae} {a:Act} {w w':World} {o:Oper}
def vX:Option Operand→Bool
 | some (.const (.int _ 0))=>true
 | _=>false
theorem C9 {x:Option Operand} (h:vX x=true):∃k,x=some (.const (.int k 0)):=by
 unfold vX at h
 split at h
 ·exact ⟨_,rfl⟩
 ·cases h
def Da (P:Program) (N:Nat) (o:Oper) (d:Nat) (x:aq) (sz:Nat):Bool:=b2 N o d &&
 (match o.op with
  | .slice t a9 aX av fz=>cA a9 x&&o2 P t sz&&(aX.isNone||vX aX)&&vX av&&vX fz
  | _=>false)
theorem Z6 {k:IntKind} {y:Nat} {code:BoundsCode}:(Instr.sliceBound (.int k 0) y code).run P w=.ok 0 w:=by
 simp [Instr.sliceBound,asIntOf]
theorem Z7 {t e:TypeId} {f:TypeInfo} {base:Option Addr} {len cap:Nat} {aX:Option Value} {k' Z8:IntKind} (aN:aX=none∨∃k,aX=some (.int k 0)) (hu:P.underlying t=some (.slice e)) (aP:P.info? e=some f) :
  (Instr.sliceAt t (.slice base len cap) aX (some (.int k' 0)) (some (.int Z8 0))).run P w=.ok (.slice base 0 0) w:=by
 rcases aN with rfl | ⟨k,rfl⟩ <;>
  simp [Instr.sliceAt,Instr.slice,run_underlying hu,Instr.sliceBounds,Z6,Go.sizeOf,typeInfo,aP]
theorem Z9 {t sz:Nat} (h:o2 P t sz=true):∃e f,P.underlying t=some (.slice e)∧P.info? e=some f∧f.size=sz:=by
 unfold o2 at h
 split at h
 ·rename_i e hu
  split at h
  ·rename_i f aP
   exact ⟨e,f,hu,aP,by simpa using h⟩
  ·cases h
 ·cases h
theorem Db (sz:Nat):cc (.fb sz):=fun _ _ _ h=>by simp at h
theorem aaa {d sz:Nat} {x:aq} (h:Rel P gl N g s a w) (af:Da P N o d x sz=true) (he:au gl s (.nT d x sz)=some s'):cJ P gl N o g a w s':=by
 simp only [Da,Bool.and_eq_true] at af
 obtain ⟨aw,aD⟩:=af
 split at aD
 ·rename_i t a9 aX av fz aE
  simp only [Bool.and_eq_true,Bool.or_eq_true] at aD
  obtain ⟨⟨⟨⟨ai,ab⟩,k1⟩,n1⟩,aab⟩:=aD
  obtain ⟨e,f,hu,aP,_⟩:=Z9 ab
  obtain ⟨bN,rfl⟩:=C9 n1
  obtain ⟨cb,rfl⟩:=C9 aab
  have aN:aX.map a.eval=none∨∃k,aX.map a.eval=some (.int k 0):=by
   rcases k1 with k1 | k1
   ·left;cases aX<;>simp_all
   ·right;obtain ⟨k,rfl⟩:=C9 k1;exact ⟨k,rfl⟩
  have bM:∀base len cap,a.eval a9=.slice base len cap→(execOp a.eval o).run P w=.ok (.value (.slice base 0 0)) w:=fun base len cap ax=>by
   have bB:∀k,a.eval (.const (.int k 0))=.int k 0:=fun _=>rfl
   simp only [execOp,aE,ax,Option.map_some,bB,Sem.run_bind,Z7 aN hu aP,Result.andThen_ok,Sem.run_pure]
  simp only [au] at he
  split at he
  ·rename_i own b8 xs aB
   split at he
   ·obtain ⟨base,cap,an,_⟩:=(ca h ai aB).p7
    exact .value h aw he (bM _ _ _ an) (.fb _ _) (Db _)
   ·cases he
  ·rename_i b8 aB
   split at he
   ·have an:=(ca h ai aB).m5
    exact .value h aw he (bM _ _ _ an) (.fb _ _) (Db _)
   ·cases he
  ·cases he
 ·cases aD
theorem aU.MN {sz:Nat} {v:Value} (h:aU g (.fb sz) v):∃base,v=.slice base 0 0:=by
 cases h with
 | pure _ _ h=>cases h
 | fb _ base=>exact ⟨base,rfl⟩
theorem MO {t ty e:TypeId} {i:TypeInfo} {z:Value} (hu:P.underlying t=some (.slice e)) (av:P.info? e=some i) (bx:i.zero=some z) (ry:z.cells.size=i.size)
  (base:Option Addr) {ad:Addr} {m c:Nat} {news:List Value} (aN:news.length=m*i.size)
  (k4:∀j u,news[j]?=some u→w.cell? (ad.add j)=some u) (hm:0<m) (vH:m≤M) (ah:i.bytes≤128) :
  ∃bP w',(Builtin.append_ #[t,t] ty #[.slice base 0 0,.slice (some ad) m c]).run P w=.ok bP w'∧w'.ownsRow 0 e i.size bP m news ∧
   bP.ownBlock=some w.heap.size∧w.heap.size<w'.heap.size∧(∀k,k<w.heap.size→w'.heap[k]?=w.heap[k]?)∧((w'.os,w'.tape)=(w.os,w.tape)∧w'.output=w.output):=by
 unfold M at vH
 have rz:m*i.bytes≤140737488355328:=by
  calc m*i.bytes≤1099511627776*128:=Nat.mul_le_mul (by omega) ah
   _=140737488355328:=by decide
 have vI:m≤maxLen:=by unfold maxLen;omega
 have grown:(w.drew.alloc (.cells (#[]++news.toArray++Builtin.zeroCells z.cells (grownCap w m 0 e - m)) e)).ownsRow 0 e i.size
    (.slice (some ⟨w.heap.size,0,none⟩) m (grownCap w m 0 e)) m news:=by
  have qd:=grownCap_ge w m 0 e
  have n3:grownCap w m 0 e≤maxLen:=grownCap_le_maxLen w m 0 e vI
  refine ⟨aN,.inr ⟨w.heap.size,_,_,rfl,Nat.zero_le _,heap_alloc_new w.drew _,qd,n3,?_,?_⟩⟩
  ·simp only [Array.empty_append,Array.size_append,List.size_toArray,size_zeroCells,ry,aN,←Nat.add_mul]
   congr 1;omega
  ·simp only [Array.empty_append,Array.toList_append]
   rw [←aN]
   exact List.take_left
 have MP:∀k,k<w.heap.size→(w.drew.alloc (.cells (#[]++news.toArray++Builtin.zeroCells z.cells (grownCap w m 0 e - m)) e)).heap[k]?=w.heap[k]?:=fun k ab=>heap_alloc_old w.drew _ (h:=ab)
 cases base with
 | none =>
  have aA:=run_append_nil (P:=P) w t ty e i z hu av bx ad m c news aN k4 hm (by omega) (by omega)
  rw [show (news.toArray++Builtin.zeroCells z.cells (grownCap w m 0 e - m))=(#[]++news.toArray++Builtin.zeroCells z.cells (grownCap w m 0 e - m)) by simp] at aA
  exact ⟨_,_,aA,grown,rfl,by rw [jE];show w.heap.size<w.heap.size+1;omega,MP,rfl,rfl⟩
 | some b =>
  have aA:=run_append_grow (P:=P) w t ty e i z hu av bx b 0 0 [] (by simp) (by simp) ad m c news aN k4 (by omega) (by omega) (growslice_fits (by omega) (by simpa using rz))
  simp only [Nat.zero_add] at aA
  exact ⟨_,_,aA,grown,rfl,by rw [jE];show w.heap.size<w.heap.size+1;omega,MP,rfl,rfl⟩
theorem MQ {t ty e:TypeId} {i:TypeInfo} (hu:P.underlying t=some (.slice e)) (av:P.info? e=some i) (base MR:Option Addr) (c:Nat) :
  (Builtin.append_ #[t,t] ty #[.slice base 0 0,.slice MR 0 c]).run P w=.ok (.slice base 0 0) w:=by
 cases base<;>cases MR<;>simp [Builtin.append_,run_underlying hu,Go.sizeOf,typeInfo,av,Builtin.lenOf,Builtin.firstCells,loadCells,loadCellsFrom,storeCells]
def tq (P:Program) (N:Nat) (o:Oper) (d u:Nat) (x:aq) (e sz:Nat):Bool:=td P N o d u x e sz
theorem aac {d u:Nat} {x:aq} {e sz:Nat} (h:Rel P gl N g s a w) (af:tq P N o d u x e sz=true) (he:au gl s (.mj d u x e sz)=some s'):cJ P gl N o g a w s':=by
 simp only [tq,td,Bool.and_eq_true] at af
 obtain ⟨aw,aD⟩:=af
 split at aD
 ·rename_i gF a9 t ht aE
  obtain ⟨nZ,bM⟩:=m4 (o:=o) aE rfl a.eval
  simp only [Bool.and_eq_true,beq_iff_eq] at aD
  obtain ⟨⟨⟨rfl,rfl⟩,ai⟩,ab⟩:=aD
  obtain ⟨hu,ab⟩:=rq ab
  have dZ:=aw
  simp only [b2,Bool.and_eq_true,beq_iff_eq,decide_eq_true_eq] at dZ
  simp only [au] at he
  split at he
  ·rename_i b8 gA ys aS aT
   obtain ⟨y,aT,m8⟩:=bind_some aT
   split at he
   ·rename_i ah
    obtain ⟨rfl,rfl,c7⟩:=ah
    obtain ⟨v,aG,aJ,_⟩:=h.env _ _ aS
    obtain ⟨jG,rfl⟩:=aJ.MN
    obtain ⟨i,z,bf,bu,b5,cy,eW,eF⟩:=ky ab
    obtain ⟨base,cap,an,ar,aO⟩:=aU.yD (ca h ai aT) m8
    have cD:a.eval (.tmp gF)=.slice jG 0 0:=by simp [Act.eval,aG]
    cases ys with
    | nil =>
     have aA:=MQ (P:=P) (w:=w) (ty:=o.type) hu bf jG base cap
     simp only at he
     refine .value (v:=.slice jG 0 0) h aw he ?_ (.pure _ _ (.fP _ _ _ (by simp))) (cc.none _ _)
     rw [bM]
     simp only [builtin,List.map_cons,List.map_nil,cD,an,List.length_nil,Sem.run_bind,aA,Result.andThen_ok,Sem.run_pure]
    | cons hP vY =>
     simp only at he
     generalize fe:hP::vY=ys at he an ar aO c7
     have ck:ys≠[]:=by rw [←fe];simp
     rcases aO with aO | ⟨b,off,rfl,bD⟩
     ·exact absurd aO ck
     obtain ⟨rows,bK,cg,cS,eC,eK⟩:=bD.iq
     have k4:∀j u,rows.flatten[j]?=some u→w.cell? ((⟨b,off,none⟩:Addr).add j)=some u:=fun j u a6=>by rw [iX];exact h.dY _ _ _ (eK j u a6)
     have jc:0<ys.length:=List.length_pos_iff.2 ck
     obtain ⟨bP,w',bN,cb,ds,dz,ez,c3⟩:=MO (P:=P) (w:=w) (ty:=o.type) (c:=cap) hu bf cy (by omega) jG (by rw [eC,bu]) k4 jc c7 eF
     subst bu
     refine Cq (u:=gF) (rows:=rows) (xs:=[]) (v:=.slice none 0 0) h (⟨fun t y aF aT=>by simp at aF;subst aF;rw [aS] at aT;simp at aT;subst aT;exact Db _,by simp,by simp,by simp,by simp,by simp⟩) bf b5 cy (by omega) eF (World.ownsRow_nil _ _ _ _)
      (fun b ah=>by simp [Value.ownBlock] at ah) (fun _ _ _ _=>.nil _ _ _) bK cg (by simpa using c7) (by simpa using cb) (by omega) c3 (.inr ⟨ds,dz,ez⟩) dZ (by simpa using he) ?_
     rw [bM]
     simp only [builtin,List.map_cons,List.map_nil,cD,an,Sem.run_bind,bN,Result.andThen_ok,Sem.run_pure]
   ·cases he
  ·cases he
 ·cases aD
def Dc (N:Nat) (o:Oper) (d:Nat) (x:aq):Bool:=b2 N o d&&(match m3 o.op with | some (.unsafeSliceData,[a9],_)=>cA a9 x | _=>false)
theorem aad {d:Nat} {x:aq} (h:Rel P gl N g s a w) (af:Dc N o d x=true) (he:au gl s (.mT d x)=some s'):cJ P gl N o g a w s':=by
 simp only [Dc,Bool.and_eq_true] at af
 obtain ⟨aw,aD⟩:=af
 split at aD
 ·rename_i a9 bk aE
  obtain ⟨nZ,bM⟩:=m4 (o:=o) aE rfl a.eval
  simp only [au] at he
  split at he
  ·rename_i id off n sz aB
   split at he
   ·rename_i a1
    obtain ⟨b,k,cap,an,ar,aO,bD,ew⟩:=(ca h aD aB).oY
    refine .value h aw he ?_ (.ptr _ _ _ an) (o1 _ _)
    rw [bM]
    simp only [builtin,List.map_cons,List.map_nil,ew,Sem.run_bind,Lib.run_unsafeSliceData_row w _ _ _ _ _ (show cap≠0 by omega),Result.andThen_ok,Sem.run_pure]
   ·cases he
  ·rename_i sz aB
   have q:=(ca h aD aB).m5
   refine .value h aw he ?_ (.pure _ _ .dP) (fun _ _ _ h=>by simp at h)
   rw [bM]
   simp only [builtin,List.map_cons,List.map_nil,q,Sem.run_bind,Lib.run_unsafeSliceData_nil,Result.andThen_ok,Sem.run_pure]
  ·cases he
 ·cases aD
def Dd (P:Program) (N:Nat) (o:Oper) (d e:Nat) (x n:aq):Bool:=b2 N o d &&
 (match m3 o.op with | some (.unsafeString,[a9,n'],[yQ,_])=>cA a9 x&&cA n' n&&P.cellsOf e==1&&(match P.underlying yQ with | some (.pointer bH)=>bH==e | _=>false) | _=>false)
theorem MS:∀{cs:List AV} {b:List UInt8} {us:List Value},bytesOf cs=some b→bW g cs us→us=b.map fun c=>.int .u8 c.toNat
 | [],b,us,h,ax=>by simp [bytesOf] at h;subst h;cases ax;rfl
 | c::cs,b,us,h,ax=>by
  cases ax with
  | cons _ _ v vs R aa =>
   unfold bytesOf at h
   split at h
   ·rename_i cC;cases cC
   ·rename_i n r cC
    simp at cC;obtain ⟨rfl,rfl⟩:=cC
    split at h
    ·rename_i a1
     rw [Option.map_eq_some_iff] at h
     obtain ⟨bE,eb,rfl⟩:=h
     have aB:=R.hg
     have aI:=MS eb aa
     subst aB aI
     simp only [List.map_cons,List.cons.injEq,and_true]
     congr 1
     have:(UInt8.ofNat n.toNat).toNat=n.toNat:=by
      rw [UInt8.toNat_ofNat']
      exact Nat.mod_eq_of_lt (by omega)
     rw [this];omega
    ·cases h
   ·cases h
theorem aae {b n:Nat} (a0:n≠0) (w:World) (k:Nat) (ab:k≠b):(w.freeze ⟨b,0,none⟩ n).heap[k]?=w.heap[k]?:=by
 simp [World.freeze,a0,Array.getElem?_modify,Ne.symm ab]
theorem aaf {b n:Nat} (w:World):(w.freeze ⟨b,0,none⟩ n).heap.size=w.heap.size:=by
 unfold World.freeze;split<;>simp
theorem Rel.dead (h:Rel P gl N g s a w) (id:Nat):Rel P gl N g { s with heap:=s.heap.set id .dead } a w:=by
 refine ⟨h.sorted,h.size,h.defers,h.env,fun eP bt bh=>?_,h.dY,h.own,h.e4,fun i b av=>by simpa using h.er i b av⟩
 simp only at bh
 rw [List.getElem?_set] at bh
 split at bh
 ·split at bh
  ·simp at bh;subst bh;trivial
  ·cases bh
 ·exact h.heap eP bt bh
theorem Rel.aag (h:Rel P gl N g s a w) {id b:Nat} (bG:s.heap[id]?=some .dead) (ah:g.b4 id=some b) (aE:g.bd b=.bt id) (fI:∀off,g.γ b off=none) (hm:∀arr n,w.heap[b]?≠some (.map arr n)) (aS:w'.heap.size=w.heap.size) (hw:∀k,k≠b→w'.heap[k]?=w.heap[k]?) (fS:(w'.os,w'.tape)=(w.os,w.tape)∧w'.output=w.output) :
  dj g w g w'∧Rel P gl N g s a w':=by
 have aK:GhLe g g:=⟨fun _ _ _ h=>h,fun _ _ h=>h⟩
 have ab:Kept g w g w' fun o=>o≠.bt id:=fun k ab=>⟨rfl,hw k (fun e=>ab (by rw [e,aE])),fun _=>rfl⟩
 refine ⟨⟨aK,fun k ab=>⟨ab,hw k (fun e=>by rw [e,aE] at ab;cases ab),fun _=>rfl⟩,by rw [aS];exact Nat.le_refl _,fS.1,fS.2⟩,?_⟩
 refine ⟨h.sorted,h.size,h.defers,fun t e he=>(h.env t e he).kept aK ab (by simp) (by simp) (by simp),fun eP bt bh=>?_,fun k off v ax=>?_,fun k ab=>by rw [aS];exact h.own k ab,h.e4,h.er⟩
 ·by_cases e:eP=id
  ·subst e;rw [bG] at bh;simp at bh;subst bh;trivial
  ·exact (h.heap eP bt bh).beside aK ab e ah hm (by simp) (by simp)
 ·have cF:=h.dY k off v ax
  have rk:k≠b:=by rintro rfl;rw [fI] at ax;cases ax
  unfold World.cell? at cF ⊢
  rw [hw k rk];exact cF
theorem aah {d e:Nat} {x n:aq} (h:Rel P gl N g s a w) (af:Dd P N o d e x n=true) (he:au gl s (.mU d e x n)=some s'):cJ P gl N o g a w s':=by
 simp only [Dd,Bool.and_eq_true] at af
 obtain ⟨aw,aD⟩:=af
 split at aD
 ·rename_i a9 n' yQ it aE
  obtain ⟨nZ,bM⟩:=m4 (o:=o) aE rfl a.eval
  simp only [Bool.and_eq_true,beq_iff_eq] at aD
  obtain ⟨⟨⟨ai,a1⟩,aai⟩,yR⟩:=aD
  split at yR
  ·rename_i bH ao
   simp at yR;subst yR
   simp only [au] at he
   split at he
   ·rename_i id m aB aI
    split at he
    ·rename_i bB cs bG
     split at he
     ·rename_i ah
      obtain ⟨rfl,a0,R,aa⟩:=ah
      obtain ⟨l,aN,he⟩:=bind_some he
      obtain ⟨b,gC,fG⟩:=(ca h ai aB).m2
      have hm:=(ca h a1 aI).hg
      obtain ⟨bE,k,aG,qm,aJ,⟨arr,bo,cd⟩,dV⟩:=h.heap _ _ bG
      rw [gC] at aG;simp at aG;subst aG
      obtain ⟨ws,cf,cY,eS,fJ⟩:=aJ.cells (off:=0) (n:=m.toNat)
      simp only [List.drop_zero] at cf cY
      have kF:=MS aN cY
      have hlen:l.length=m.toNat:=by
       have:=cY.get.1
       rw [kF] at this;simp at this;omega
      have aaj:(m:Int)=l.length:=by omega
      obtain ⟨arr',MT,h2,rE,rF,vZ,_⟩:=aJ
      rw [bo] at h2;simp at h2;obtain ⟨rfl,rfl⟩:=h2
      have g3:∀j y,l[j]?=some y→w.cell? ((⟨b,0,none⟩:Addr).add j)=some (.int .u8 y.toNat):=fun j y aT=>by
       rw [iX,Nat.zero_add]
       have:=fJ j (.int .u8 y.toNat) (by rw [kF];simp [aT])
       simpa using this
      have aA:=Lib.run_unsafeString_row (P:=P) w yQ it o.type bB ao aai b arr.size (by simp [World.shape?,bo]) l (by intro e;subst e;simp at hlen;omega) (by omega) (by unfold M at aa;omega) g3
      have mo:l.length≠0:=by omega
      have De:=h.dead id
      have k2:id<s.heap.length:=(List.getElem?_eq_some_iff.1 bG).1
      obtain ⟨t1,t2⟩:=De.aag (w':=w.freeze ⟨b,0,none⟩ l.length) (id:=id) (b:=b) (by simp [k2]) gC rF vZ (by simp [bo]) (aaf w) (fun k ab=>aae mo w k ab) (by unfold World.freeze;split<;>exact ⟨rfl,rfl⟩)
      simp only [b2,Bool.and_eq_true,beq_iff_eq,decide_eq_true_eq] at aw
      refine ⟨.string ⟨l.toArray⟩,_,g,.inl ?_,t1,?_⟩
      ·rw [bM]
       simp only [builtin,List.map_cons,List.map_nil,fG,hm,aaj,ptrTo,Sem.run_bind,aA,Result.andThen_ok,Sem.run_pure]
      ·rw [aw.1]
       exact t2.put he aw.2 (.pure _ _ (.str _ (by omega))) (vn _).fo
     ·cases he
    ·cases he
   ·rename_i m aB aI
    split at he
    ·rename_i a0
     subst a0
     have q:=(ca h ai aB).vo
     have hm:=(ca h a1 aI).hg
     refine .value h aw he ?_ (.pure _ _ (.str [] (by simp))) (vn _)
     rw [bM]
     simp only [builtin,List.map_cons,List.map_nil,q,hm,Sem.run_bind,Lib.run_unsafeString_none w yQ it,Result.andThen_ok,Sem.run_pure]
     rfl
    ·cases he
   ·cases he
  ·cases yR
 ·cases aD
theorem aak {fn:Func} (h:fn.name= "internal/abi.NoEscape"):Extern.find fn=some Extern.AbiNoEscape.same∧((Extern.allNextRows.lookup fn.name).map (· fn.params fn.resultTypes))=none:=by
 have R:Extern.allGenericRows.lookup "internal/abi.NoEscape"=none:=by kernel_rfl
 have aa:Extern.allTypedRows.lookup "internal/abi.NoEscape"=none:=by kernel_rfl
 have al:Extern.allRows.lookup "internal/abi.NoEscape"=some Extern.AbiNoEscape.same:=by kernel_rfl
 have aY:Extern.allNextRows.lookup "internal/abi.NoEscape"=none:=by kernel_rfl
 refine ⟨?_,by rw [h,aY];rfl⟩
 simp only [Extern.find,h,R,aa,al];rfl
theorem aal {fn:Func} (h:fn.name= "internal/bytealg.abigen_runtime_cmpstring"):Extern.find fn=some Extern.BytealgCompare.compare∧((Extern.allNextRows.lookup fn.name).map (· fn.params fn.resultTypes))=none:=by
 have R:Extern.allGenericRows.lookup "internal/bytealg.abigen_runtime_cmpstring"=none:=by kernel_rfl
 have aa:Extern.allTypedRows.lookup "internal/bytealg.abigen_runtime_cmpstring"=none:=by kernel_rfl
 have al:Extern.allRows.lookup "internal/bytealg.abigen_runtime_cmpstring"=some Extern.BytealgCompare.compare:=by kernel_rfl
 have aY:Extern.allNextRows.lookup "internal/bytealg.abigen_runtime_cmpstring"=none:=by kernel_rfl
 refine ⟨?_,by rw [h,aY];rfl⟩
 simp only [Extern.find,h,R,aa,al];rfl
def Df (P:Program) (f:Nat) (fj:String):Bool:=match P.funcs[f]? with
 | some fn=>fn.name==fj&&fn.body.isNone&&(Extern.allNextRows.lookup fn.origin).isNone
 | none=>false
theorem aam {f:Nat} {fj:String} {args:Array Value} {e:Array Value→Sem Value} (h:Df P f fj=true) (a1:(fj== "runtime.NumGoroutine")=false)
  (aP:∀fn:Func,fn.name=fj→Extern.find fn=some e∧((Extern.allNextRows.lookup fn.name).map (· fn.params fn.resultTypes))=none) {v:Value} (ax:(e args).run P w=.ok v w) :
  (callFunc f args).run P w=.ok (.value v) w:=by
 unfold Df at h
 split at h
 ·rename_i fn R
  simp only [Bool.and_eq_true,beq_iff_eq,Option.isNone_iff_eq_none] at h
  obtain ⟨⟨aa,al⟩,aY⟩:=h
  obtain ⟨an,ar⟩:=aP fn aa
  have CD:Extern.findNext fn=none:=by
   simp only [Extern.findNext,ar,aY];rfl
  simp only [callFunc,Sem.run_bind,run_program,Result.andThen_ok,R,aa,a1,Bool.false_eq_true,if_false]
  simp only [al,Option.isNone_none,if_true,Sem.run_bind,run_mark,Result.andThen_ok,CD,an,ax,Sem.run_pure]
 ·cases h
def tr (P:Program) (N:Nat) (o:Oper) (d f:Nat) (fj:String) (xs:List aq):Bool:=b2 N o d&&Df P f fj &&
 (match o.op with | .call c=>(match c.callee with | .value (.func eR)=>eR==f&&gQ c.args.toList xs | _=>false) | _=>false)
theorem MU {d f:Nat} {fj:String} {xs:List aq} {e:Array Value→Sem Value} (af:tr P N o d f fj xs=true) (a1:(fj== "runtime.NumGoroutine")=false)
  (aP:∀fn:Func,fn.name=fj→Extern.find fn=some e∧((Extern.allNextRows.lookup fn.name).map (· fn.params fn.resultTypes))=none) :
  b2 N o d=true∧∃ys:List Operand,gQ ys xs=true∧∀v,(e (ys.map a.eval).toArray).run P w=.ok v w→(execOp a.eval o).run P w=.ok (.value v) w:=by
 simp only [tr,Bool.and_eq_true] at af
 obtain ⟨⟨aw,ai⟩,aD⟩:=af
 refine ⟨aw,?_⟩
 split at aD
 ·rename_i c aE
  split at aD
  ·rename_i eR gG
   simp only [Bool.and_eq_true,beq_iff_eq] at aD
   obtain ⟨rfl,gR⟩:=aD
   refine ⟨c.args.toList,gR,fun v ax=>?_⟩
   have bH:(List.map a.eval c.args.toList).toArray=c.args.map a.eval:=by apply Array.ext';simp
   simp only [execOp,aE,resolve,gG,Act.eval,Deferred.ofValue,Sem.run_bind,Sem.run_pure,Result.andThen_ok,invoke]
   refine aam (v:=v) ai a1 aP ?_
   rw [←bH]
   simpa using ax
  ·cases aD
 ·cases aD
theorem aan {d f:Nat} {x:aq} (h:Rel P gl N g s a w) (af:tr P N o d f "internal/abi.NoEscape" [x]=true) (he:au gl s (.mV d f x)=some s'):cJ P gl N o g a w s':=by
 obtain ⟨aw,ys,fe,aA⟩:=MU (P:=P) (a:=a) (w:=w) af (by decide) (fun fn h=>aak h)
 obtain ⟨u,R,aa⟩:=bind_some he
 match ys,fe with
 | [y],fe =>
  have aT:cA y x=true:=by simpa [gQ] using fe
  exact .value h aw aa (aA (a.eval y) rfl) (ca h aT R).aL (cc.aL u)
 | [],fe=>simp [gQ] at fe
 | _::_::_,fe=>simp [gQ] at fe
theorem aao:∀(x y:List UInt8),Extern.BytealgCompare.cmp ⟨x.toArray⟩ ⟨y.toArray⟩=da x y:=by
 have gen:∀(x y:List UInt8) (p q:List UInt8),p.length=q.length→
   (match ((List.range (min x.length y.length)).find? fun i=>(p++x)[p.length+i]! != (q++y)[q.length+i]!) with
    | some i=>if (p++x)[p.length+i]! < (q++y)[q.length+i]! then (-1:Int) else 1
    | none=>if x.length<y.length then -1 else if x.length>y.length then 1 else 0)=da x y:=by
  intro x
  induction x with
  | nil =>
   intro y p q _
   cases y<;>simp [da]
  | cons c x ih =>
   intro y p q CR
   cases y with
   | nil=>simp [da]
   | cons d y =>
    have aap:min (c::x).length (d::y).length=min x.length y.length+1:=by simp
    rw [aap,List.range_succ_eq_map,List.find?_cons]
    have aB:(p++c::x)[p.length+0]! = c:=by simp
    have aI:(q++d::y)[q.length+0]! = d:=by simp
    rw [aB,aI]
    by_cases g6:c=d
    ·subst g6
     simp only [bne_self_eq_false,List.find?_map]
     have:=ih y (p++[c]) (q++[c]) (by simp [CR])
     simp only [List.append_assoc,List.singleton_append,List.length_append,List.length_cons,List.length_nil,Nat.zero_add] at this
     simp only [da,if_true]
     rw [←this]
     have aP:((fun i=>(p++c::x)[p.length+i]! != (q++c::y)[q.length+i]!)∘Nat.succ)=fun i=>(p++c::x)[p.length+1+i]! != (q++c::y)[q.length+1+i]!:=by
      funext i
      simp only [Function.comp]
      rw [show p.length+i.succ=p.length+1+i by omega,show q.length+i.succ=q.length+1+i by omega]
     rw [aP]
     cases j1:(List.range (min x.length y.length)).find? (fun i=>(p++c::x)[p.length+1+i]! != (q++c::y)[q.length+1+i]!) with
     | none=>simp
     | some i =>
      simp only [Option.map_some]
      rw [show p.length+i.succ=p.length+1+i by omega,show q.length+i.succ=q.length+1+i by omega]
    ·have:(c != d)=true:=by simp [g6]
     simp only [this,da,g6,if_false]
     simp only [aB,aI]
 intro x y
 have:=gen x y [] [] rfl
 simp only [List.nil_append,List.length_nil,Nat.zero_add] at this
 rw [←this]
 have R:∀(l:List UInt8) (i:Nat),(ByteArray.mk l.toArray)[i]! = l[i]!:=by
  intro l i
  by_cases h:i<l.length
  ·rw [getElem!_pos _ _ (by simpa [ByteArray.size] using h),getElem!_pos l i h];rfl
  ·rw [getElem!_neg _ _ (by simpa [ByteArray.size] using h),getElem!_neg l i h]
 simp only [Extern.BytealgCompare.cmp,ByteArray.size,List.size_toArray,R]
 rfl
theorem aaq {d f:Nat} {x y:aq} (h:Rel P gl N g s a w) (af:tr P N o d f "internal/bytealg.abigen_runtime_cmpstring" [x,y]=true) (he:au gl s (.lB d f x y)=some s'):cJ P gl N o g a w s':=by
 obtain ⟨aw,ys,fe,aA⟩:=MU (P:=P) (a:=a) (w:=w) af (by decide) (fun fn h=>aal h)
 simp only [au] at he
 split at he
 ·rename_i l m aB aI
  match ys,fe with
  | [eA,gp],fe =>
   simp only [gQ,List.length_cons,List.length_nil,List.zip_cons_cons,List.zip_nil_right,List.all_cons,List.all_nil,Bool.and_true,Bool.and_eq_true,beq_self_eq_true,true_and] at fe
   obtain ⟨an,_⟩:=(ca h fe.1 aB).jC
   obtain ⟨ar,_⟩:=(ca h fe.2 aI).jC
   refine .value h aw he (aA (.int .i64 (da l m)) ?_) (.pure _ _ (.int _ _)) (k0 _ _)
   have bB:Extern.BytealgCompare.compare #[.string ⟨l.toArray⟩,.string ⟨m.toArray⟩]=(do pure (goInt (Extern.BytealgCompare.cmp (←Extern.Bytes.bytesOf (.string ⟨l.toArray⟩)) (←Extern.Bytes.bytesOf (.string ⟨m.toArray⟩))))):=rfl
   simp only [List.map_cons,List.map_nil,an,ar,bB,Extern.Bytes.bytesOf,Sem.run_bind,Sem.run_pure,Result.andThen_ok,aao,goInt]
  | [],fe=>simp [gQ] at fe
  | [_],fe=>simp [gQ] at fe
  | _::_::_::_,fe=>simp [gQ] at fe
 ·cases he
end
end AM
/-! The simulation of appends to heap slices. -/
namespace AM
open Go
section
variable {P:Program} {gl:aR} {N:Nat} {g g':a5} {s s':ae} {a:Act} {w w':World} {o:Oper}
theorem aar {t u ty e:TypeId} {i:TypeInfo} {z:Value} (aF:P.underlying t=some (.slice e)) (hu:P.underlying u=some .string) (av:P.info? e=some i) (bx:i.zero=some z) (ry:z.cells.size=i.size) (fK:i.size=1)
  {v:Value} {n:Nat} {xs:List Value} (dx:w.ownsRow 0 e i.size v n xs) (s:ByteArray) (hm:0<s.size) (vH:n+s.size≤M) (ah:i.bytes≤128) :
  ∃bP w',(Builtin.append_ #[t,u] ty #[v,.string s]).run P w=.ok bP w'∧w'.ownsRow 0 e i.size bP (n+s.size) (xs++Lib.strCells s)∧w.heap.size≤w'.heap.size ∧
   ((bP.ownBlock=v.ownBlock∧v.ownBlock≠none∧∀k,some k≠v.ownBlock→w'.heap[k]?=w.heap[k]?)∨(bP.ownBlock=some w.heap.size∧w.heap.size<w'.heap.size∧∀k,k<w.heap.size→w'.heap[k]?=w.heap[k]?))∧((w'.os,w'.tape)=(w.os,w.tape)∧w'.output=w.output):=by
 unfold M at vH
 have rz:(n+s.size)*i.bytes≤140737488355328:=by
  calc (n+s.size)*i.bytes≤1099511627776*128:=Nat.mul_le_mul (by omega) ah
   _=140737488355328:=by decide
 have vI:n+s.size≤maxLen:=by unfold maxLen;omega
 have aN:(Lib.strCells s).length=s.size*i.size:=by rw [Lib.strCells_length,fK,Nat.mul_one]
 have hlen:(xs++Lib.strCells s).length=(n+s.size)*i.size:=by rw [List.length_append,dx.1,aN,Nat.add_mul]
 have grown:∀(kz:Nat),kz<n+s.size →
   (w.drew.alloc (.cells (xs.toArray++(Lib.strCells s).toArray++Builtin.zeroCells z.cells (grownCap w (n+s.size) kz e - (n+s.size))) e)).ownsRow 0 e i.size
    (.slice (some ⟨w.heap.size,0,none⟩) (n+s.size) (grownCap w (n+s.size) kz e)) (n+s.size) (xs++Lib.strCells s):=by
  intro kz aE
  have qd:=grownCap_ge w (n+s.size) kz e
  have n3:grownCap w (n+s.size) kz e≤maxLen:=grownCap_le_maxLen w (n+s.size) kz e vI
  refine ⟨hlen,.inr ⟨w.heap.size,_,_,rfl,Nat.zero_le _,heap_alloc_new w.drew _,qd,n3,?_,?_⟩⟩
  ·simp only [Array.size_append,List.size_toArray,size_zeroCells,ry,dx.1,aN,←Nat.add_mul]
   congr 1;omega
  ·simp only [Array.toList_append,List.append_assoc]
   rw [←List.append_assoc,←hlen]
   exact List.take_left
 rcases dx.2 with ⟨rfl,rfl⟩ | ⟨g,cap,cur,rfl,L7,aK,tc,n3,gD,qe⟩
 ·have ai:xs=[]:=List.eq_nil_of_length_eq_zero (by simpa using dx.1)
  subst ai
  have aA:=run_append_nil_string (P:=P) w t u ty e i z aF hu av bx s hm (by omega) (by simp only [Nat.zero_add] at rz;omega)
  have o9:=grown 0 (by omega)
  simp only [Nat.zero_add,List.nil_append,Array.empty_append] at o9 ⊢
  have aB:(s.data.map fun b=>Value.int .u8 b.toNat)=(Lib.strCells s).toArray:=by
   apply Array.ext'
   simp [Lib.strCells]
  rw [aB] at aA
  exact ⟨_,_,aA,o9,by rw [jE];show w.heap.size≤w.heap.size+1;omega,.inr ⟨rfl,by rw [jE];show w.heap.size<w.heap.size+1;omega,fun k ab=>heap_alloc_old w.drew _ (h:=ab)⟩,rfl,rfl⟩
 ·by_cases rA:n+s.size≤cap
  ·have qf:n+s.size≤cur.size:=by rw [gD,fK,Nat.mul_one];exact rA
   have aA:=Lib.run_append_room_string (P:=P) w t u ty e i aF hu av fK g n cap cur aK s rA qf
   refine ⟨_,_,aA,⟨hlen,.inr ⟨g,cap,_,rfl,Nat.zero_le _,setRow_heap w g cur _ e _ aK,rA,n3,?_,?_⟩⟩,by simp,.inl ⟨rfl,by simp [Value.ownBlock],fun k ab=>setRow_other w g k _ (fun e=>ab (by simp [Value.ownBlock,e]))⟩,rfl,rfl⟩
   ·simp only [List.size_toArray,List.length_append,List.length_take,List.length_drop,Array.length_toList,Lib.strCells_length]
    omega
   ·have aas:cur.toList.take n=xs:=by rw [fK,Nat.mul_one] at qe;exact qe
    rw [aas,←hlen]
    exact List.take_left
  ·have holds:∀j u,xs[j]?=some u→w.cell? ((⟨g,0,none⟩:Addr).add j)=some u:=dx.cells (g:=g) rfl
   have aA:=Lib.run_append_grow_string (P:=P) w t u ty e i z aF hu av bx ⟨g,0,none⟩ n cap xs dx.1 holds s (by omega) (by omega) (growslice_fits (by omega) rz)
   exact ⟨_,_,aA,grown cap (by omega),by rw [jE];show w.heap.size≤w.heap.size+1;omega,.inr ⟨rfl,by rw [jE];show w.heap.size<w.heap.size+1;omega,fun k ab=>heap_alloc_old w.drew _ (h:=ab)⟩,rfl,rfl⟩
theorem Rel.yS (h:Rel P gl N g s a w) {nb e sz c:Nat} {cs:List AV} {us:List Value} {cur:Array Value}
  (hZ:g.bd nb=.none∨∃id,g.bd nb=.bt id∧s.heap[id]?=some .dead∧g.b4 id=some nb∧∀arr n,w.heap[nb]?≠some (.map arr n))
  (fI:∀off,g.γ nb off=none) (hw:∀k,k≠nb→k<w.heap.size→w'.heap[k]?=w.heap[k]?) (ea:w.heap.size≤w'.heap.size) (fS:(w'.os,w'.tape)=(w.os,w.tape)∧w'.output=w.output)
  (te:w'.heap[nb]?=some (.cells cur e (0,0))) (aat:cur.size=c*sz) (qe:∀(j:Nat) u,us[j]?=some u→cur[j]?=some u) (ax:bW g cs us) (R:∀u∈us,u.oneCell'=true) (a1:∀x∈cs,cc x) (cq:hf P e sz=true) (af:c≤maxLen) :
  ∃g',dj g w g' w'∧Rel P gl N g' { s with heap:=s.heap++[aM.buf e cs,.dead] } a w'∧g'.b4 s.heap.length=some nb∧g'.b4 (s.heap.length+1)=some (c*sz):=by
 have bz:nb<w'.heap.size:=(Array.getElem?_eq_some_iff.1 te).1
 let bQ:a5:={ g with bd:=fun k=>if k=nb then .bt s.heap.length else g.bd k,b4:=fun id=>if id=s.heap.length then some nb else if id=s.heap.length+1 then some (c*sz) else g.b4 id }
 have hle:GhLe g bQ:=⟨fun _ _ _ h=>h,fun id b bG=>by
  have:=h.er id b bG
  simp [bQ,show id≠s.heap.length by omega,show id≠s.heap.length+1 by omega];exact bG⟩
 have j3:∀k,k≠nb→g.bd k≠.none→bQ.bd k=g.bd k∧w'.heap[k]?=w.heap[k]?∧∀o,bQ.γ k o=g.γ k o:=fun k ab ga =>
  ⟨by simp [bQ,ab],hw k ab (h.own k ga),fun _=>rfl⟩
 have jH:g.bd nb≠.outer:=by rcases hZ with h | ⟨id,h,_⟩<;>rw [h]<;>simp
 have aau:Kept g w bQ w' fun o=>o≠.none∧∀id,o=.bt id→s.heap[id]?≠some .dead:=fun k ab=>by
  refine j3 k ?_ ab.1
  rintro rfl
  rcases hZ with h | ⟨id,h,aa,_⟩
  ·exact ab.1 h
  ·exact ab.2 id h aa
 refine ⟨bQ,⟨hle,fun k ab=>?_,ea,fS.1,fS.2⟩,?_,by simp [bQ],by simp [bQ]⟩
 ·obtain ⟨an,ar,aO⟩:=j3 k (fun e=>jH (e▸ab)) (by rw [ab];simp)
  exact ⟨an.trans ab,ar,aO⟩
 ·refine ⟨h.sorted,h.size,h.defers,fun t e he=>(h.env t e he).kept hle aau (by simp) (by simp) (by simp),fun id bt bh=>?_,fun k off v ax=>?_,fun k ab=>?_,h.e4,fun id b bG=>?_⟩
  ·simp only at bh
   by_cases k2:id<s.heap.length
   ·rw [List.getElem?_append_left k2] at bh
    have je:=h.heap id bt bh
    rcases hZ with mo | ⟨tn,an,ar,aO,bD⟩
    ·have ab:Kept g w bQ w' fun o=>o≠.none:=fun k ab=>j3 k (by rintro rfl;exact ab mo) ab
     exact je.kept hle ab (by simp) (by simp)
    ·by_cases bB:id=tn
     ·subst bB;rw [ar] at bh;simp at bh;subst bh;trivial
     ·have ab:Kept g w bQ w' fun o=>o≠.none∧o≠.bt tn:=fun k ab=>j3 k (by rintro rfl;exact ab.2 an) ab.1
      exact je.beside hle ab bB aO bD (fun i av=>by simp [av]) (by simp)
   ·rw [List.getElem?_append_right (by omega)] at bh
    by_cases bB:id=s.heap.length
    ·subst bB
     simp at bh;subst bh
     obtain ⟨i,z,bf,bu,b5,cy,eW,eF⟩:=ky cq
     refine ⟨nb,c*sz,by simp [bQ],by simp [bQ],⟨cur,e,te,?_,by simp [bQ],fI,fun j x ai=>?_⟩,⟨cur,te,aat⟩,i,z,bf,by omega,cy,by omega,eF,by rw [bu];exact Nat.mul_le_mul_right _ af⟩
     ·have aN:=ax.get.1
      rcases Nat.eq_zero_or_pos us.length with bx | bx
      ·omega
      ·have hM:=qe (us.length - 1) us[us.length - 1] (by simp [show us.length - 1<us.length by omega])
       have:=(Array.getElem?_eq_some_iff.1 hM).1
       omega
     ·obtain ⟨v,aG,aJ⟩:=ax.get.2 j x ai
      exact ⟨v,qe j v aG,R v (List.mem_of_getElem? aG),aJ.mono hle,(a1 x (List.mem_of_getElem? ai)).fo⟩
    ·obtain ⟨k,ab⟩:∃k,id - s.heap.length=k+1:=⟨id - s.heap.length - 1,by omega⟩
     rw [ab] at bh
     cases k with
     | zero=>simp at bh;subst bh;trivial
     | succ k=>simp at bh
  ·have cF:=h.dY k off v ax
   have rk:k≠nb:=by rintro rfl;have:g.γ k off=some v:=ax;rw [fI] at this;cases this
   have m6:=s6 cF
   unfold World.cell? at cF ⊢
   rw [hw k rk m6];exact cF
  ·by_cases bB:k=nb
   ·subst bB;exact bz
   ·have:g.bd k≠.none:=by simpa [bQ,bB] using ab
    have:=h.own k this;omega
  ·simp only [List.length_append,List.length_cons,List.length_nil]
   by_cases bB:id=s.heap.length
   ·omega
   ·by_cases aB:id=s.heap.length+1
    ·omega
    ·simp [bQ,bB,aB] at bG;have:=h.er id b bG;omega
def Dg (P:Program) (N:Nat) (o:Oper) (d e sz:Nat) (sb:Bool) (u x:aq):Bool:=b2 N o d &&
 (match m3 o.op with
  | some (.append,[gF,a9],[t,ht])=>cA gF u&&cA a9 x&&rp P t e sz&&(if sb=true then yn P ht&&sz==1 else t==ht)
  | _=>false)
theorem e3.ts:∀{ws:List Value} {cs:List AV},e3 g.γ cs ws→bW g cs ws
 | [],_,h=>by cases h;exact .nil
 | _::_,_,.cons _ _ _ _ _ aa al=>.cons _ _ _ _ (.pure _ _ aa) (e3.ts al)
theorem Dh (h:Rel P gl N g s a w) {sb:Bool} {y:AV} {sz:Nat} {ys:List AV} {v:Value} (ax:aU g y v) (aN:y.sP sb=some (sz,ys)) :
  ∃news:List Value,news.length=ys.length*sz∧bW g (ys.map fun v:AV=>v.cells.map AV.aL).flatten news∧(∀u∈news,u.oneCell'=true) ∧
   ((sb=false∧∃base cap,v=.slice base ys.length cap∧(ys=[]∨∃b off,base=some ⟨b,off,none⟩∧∀j u,news[j]?=some u→w.cell? ((⟨b,off,none⟩:Addr).add j)=some u)) ∨
    (sb=true∧∃l:List UInt8,v=.string ⟨l.toArray⟩∧sz=1∧ys.length=l.length∧news=Lib.strCells ⟨l.toArray⟩)):=by
 cases sb with
 | true =>
  cases y<;>simp [AV.sP] at aN
  rename_i l
  obtain ⟨rfl,aav⟩:=ax.jC
  obtain ⟨rfl,rfl⟩:=aN
  refine ⟨Lib.strCells ⟨l.toArray⟩,by rw [Lib.strCells_length];simp [ByteArray.size],?_,Lib.strCells_oneCell _,.inr ⟨rfl,l,rfl,rfl,by simp,rfl⟩⟩
  simp only [Lib.strCells]
  clear ax aav
  induction l with
  | nil=>exact .nil
  | cons c l ih=>exact .cons _ _ _ _ (.pure _ _ (.int _ _)) ih
 | false =>
  have lF:y.fy=some (sz,ys):=by cases y<;>exact aN
  obtain ⟨base,cap,an,ar,aO⟩:=aU.yD ax lF
  rcases aO with rfl | ⟨b,off,rfl,bD⟩
  ·exact ⟨[],by simp,.nil,by simp,.inl ⟨rfl,base,cap,an,.inl rfl⟩⟩
  ·obtain ⟨rows,bK,cg,cS,eC,eK⟩:=bD.iq
   refine ⟨rows.flatten,eC,?_,fun u hu=>?_,.inl ⟨rfl,_,cap,an,.inr ⟨b,off,rfl,fun j u a6=>by rw [iX];exact h.dY _ _ _ (eK j u a6)⟩⟩⟩
   ·clear bD eK eC aN lF ax an ar cS
    induction ys generalizing rows with
    | nil=>cases rows with | nil=>exact .nil | cons=>simp at bK
    | cons y ys ih =>
     cases rows with
     | nil=>simp at bK
     | cons r rows =>
      obtain ⟨cf,cY,eS⟩:=cg 0 y r (by simp) (by simp)
      simp only [List.map_cons,List.flatten_cons]
      refine bW.append (bW.aL ?_) (ih rows (by simpa using bK) fun k x r ai aA=>cg (k+1) x r (by simpa using ai) (by simpa using aA))
      exact cY.ts
   ·obtain ⟨r,aA,g4⟩:=List.mem_flatten.1 hu
    exact cS r aA u g4
theorem MV {t u ty e:TypeId} {i:TypeInfo} {x:Value} {n c:Nat} {base:Option Addr} (aF:P.underlying t=some (.slice e)) (hu:(∃bH,P.underlying u=some (.slice bH))∨P.underlying u=some .string) (av:P.info? e=some i)
  (ai:(∃b k,x=.slice b 0 k)∨x=.string ⟨#[]⟩) (a1:n≤c) (ah:base=none→n=0∧c=0) :
  (Builtin.append_ #[t,u] ty #[.slice base n c,x]).run P w=.ok (.slice base n c) w:=by
 rcases hu with ⟨bH,hu⟩ | hu<;>rcases ai with ⟨b,k,rfl⟩ | rfl<;>cases base <;>
  first
  | (cases b<;>simp [Builtin.append_,run_underlying aF,run_underlying hu,Go.sizeOf,typeInfo,av,Builtin.lenOf,a1,Builtin.firstCells,loadCells,loadCellsFrom,storeCells];done)
  | (simp [Builtin.append_,run_underlying aF,run_underlying hu,Go.sizeOf,typeInfo,av,Builtin.lenOf,a1,Builtin.firstCells,loadCells,storeCells,ByteArray.size];done)
theorem aaw {d e sz:Nat} {sb:Bool} {u x:aq} (h:Rel P gl N g s a w) (af:Dg P N o d e sz sb u x=true) (he:au gl s (.jy d e sz sb u x)=some s'):cJ P gl N o g a w s':=by
 simp only [Dg,Bool.and_eq_true] at af
 obtain ⟨aw,aD⟩:=af
 split at aD
 ·rename_i gF a9 t ht aE
  obtain ⟨nZ,bM⟩:=m4 (o:=o) aE rfl a.eval
  simp only [Bool.and_eq_true] at aD
  obtain ⟨⟨⟨hu,ai⟩,ab⟩,nW⟩:=aD
  ·obtain ⟨v3,cq⟩:=rq ab
   obtain ⟨i,z,av,bu,b5,cy,eW,eF⟩:=ky cq
   subst bu
   have dZ:=aw
   simp only [b2,Bool.and_eq_true,beq_iff_eq,decide_eq_true_eq] at dZ
   have yT:(sb=true→P.underlying ht=some .string∧i.size=1)∧(sb=false→t=ht):=by
    cases sb with
    | true=>simp at nW;exact ⟨fun _=>⟨LR nW.1,nW.2⟩,(fun h=>by cases h)⟩
    | false=>simp at nW;exact ⟨(fun h=>by cases h),fun _=>nW⟩
   -- the run of the append, whatever is appended
   have MW:∀{v:Value} {n:Nat} {xs:List Value} {ys:List AV} {news:List Value},w.ownsRow 0 e i.size v n xs→0<ys.length→n+ys.length≤M→news.length=ys.length*i.size →
     (∀q∈news,q.oneCell'=true) →
     ((sb=false∧∃base cap,a.eval a9=.slice base ys.length cap∧(ys=[]∨∃b off,base=some ⟨b,off,none⟩∧∀j u,news[j]?=some u→w.cell? ((⟨b,off,none⟩:Addr).add j)=some u)) ∨
      (sb=true∧∃l:List UInt8,a.eval a9=.string ⟨l.toArray⟩∧i.size=1∧ys.length=l.length∧news=Lib.strCells ⟨l.toArray⟩)) →
     ∃bP w',(Builtin.append_ #[t,ht] o.type #[v,a.eval a9]).run P w=.ok bP w'∧w'.ownsRow 0 e i.size bP (n+ys.length) (xs++news)∧w.heap.size≤w'.heap.size ∧
      ((bP.ownBlock=v.ownBlock∧v.ownBlock≠none∧∀k,some k≠v.ownBlock→w'.heap[k]?=w.heap[k]?)∨(bP.ownBlock=some w.heap.size∧w.heap.size<w'.heap.size∧∀k,k<w.heap.size→w'.heap[k]?=w.heap[k]?))∧((w'.os,w'.tape)=(w.os,w.tape)∧w'.output=w.output):=by
    intro v n xs ys news dx jc c7 Cj iF Di
    rcases Di with ⟨rG,base,cap,an,aO⟩ | ⟨rG,l,an,ar,aO,bD⟩
    ·have:=yT.2 rG;subst this
     rcases aO with rfl | ⟨b,off,rfl,bD⟩
     ·simp at jc
     ·rw [an]
      exact yB (P:=P) (w:=w) (ty:=o.type) (c:=cap) v3 av cy eW dx Cj bD iF jc c7 eF
    ·obtain ⟨aS,fK⟩:=yT.1 rG
     have vL:(ByteArray.mk l.toArray).size=ys.length:=by rw [aO];simp [ByteArray.size]
     have:=aar (P:=P) (w:=w) (ty:=o.type) v3 aS av cy eW fK dx ⟨l.toArray⟩ (by omega) (by omega) eF
     rw [an,bD]
     rw [vL] at this
     exact this
   have n9:∀{base:Option Addr} {n c:Nat} {ys:List AV},ys=[]→((sb=false∧∃base cap,a.eval a9=.slice base ys.length cap)∨(sb=true∧∃l:List UInt8,a.eval a9=.string ⟨l.toArray⟩∧ys.length=l.length))→n≤c→(base=none→n=0∧c=0) →
     (Builtin.append_ #[t,ht] o.type #[.slice base n c,a.eval a9]).run P w=.ok (.slice base n c) w:=by
    intro base n c ys fe Di tc ah
    subst fe
    rcases Di with ⟨rG,b,k,q⟩ | ⟨rG,l,q,ar⟩
    ·have:=yT.2 rG;subst this
     exact MV v3 (.inl ⟨_,v3⟩) av (.inl ⟨b,k,by simpa using q⟩) tc ah
    ·have:l=[]:=List.eq_nil_of_length_eq_zero (by simpa using ar.symm)
     subst this
     exact MV v3 (.inr (yT.1 rG).1) av (.inr (by simpa using q)) tc ah
   simp only [au] at he
   split at he
   ·rename_i jW b8 ys aB aI
    obtain ⟨y,aT,m8⟩:=bind_some aI
    split at he
    ·rename_i ah
     obtain ⟨rfl,rfl,c7⟩:=ah
     have q:=(ca h hu aB).m5
     obtain ⟨news,et,ey,hi,qn⟩:=Dh h (ca h ai aT) m8
     split at he
     · -- nothing is appended
      have aA:=n9 (base:=none) (n:=0) (c:=0) (ys:=[]) rfl (by
       rcases qn with ⟨bK,b,k,cg,_⟩ | ⟨bK,l,cg,_,eC,_⟩
       ·exact .inl ⟨bK,b,k,cg⟩
       ·exact .inr ⟨bK,l,cg,eC⟩) (by omega) (by simp)
      refine .value h aw he ?_ (.pure _ _ (.aH _)) (fun _ _ _ h=>by simp at h)
      rw [bM]
      simp only [builtin,List.map_cons,List.map_nil,q,Sem.run_bind,aA,Result.andThen_ok,Sem.run_pure]
     ·rename_i hP vY
      generalize fe:hP::vY=ys at *
      have jc:0<ys.length:=by rw [←fe];simp
      obtain ⟨bP,w',bN,cb,ds,dz,c3⟩:=MW (World.ownsRow_nil w 0 e i.size) jc (by simpa using c7) et hi (by
       rcases qn with ⟨bK,b,k,cg,cS⟩ | ⟨bK,l,cg,cS,eC,eK⟩
       ·exact .inl ⟨bK,b,k,cg,cS⟩
       ·exact .inr ⟨bK,l,cg,cS,eC,eK⟩)
      rcases dz with ⟨_,ez,_⟩ | ⟨ez,jF,k8⟩
      ·exact absurd rfl ez
      ·rcases cb.2 with ⟨rfl,_⟩ | ⟨nb,cap,cur,rfl,_,cf,cY,eS,fJ,iM⟩
       ·simp [Value.ownBlock] at ez
       ·simp [Value.ownBlock] at ez;subst ez
        obtain ⟨g',t1,t2,t3,t4⟩:=h.yS (w':=w') (nb:=w.heap.size) (us:=news) (c:=cap) (.inl h.s7) h.n2 (fun k ab bz=>k8 k bz) ds c3 cf fJ (fun j u a6=>by
         have:(cur.toList.take ((0+ys.length)*i.size))[j]?=some u:=by rw [iM];simpa using a6
         rw [List.getElem?_take] at this
         split at this
         ·simpa using this
         ·cases this) ey hi (fun c af=>by
         obtain ⟨l,aN,gG⟩:=List.mem_flatten.1 af
         obtain ⟨v,_,rfl⟩:=List.mem_map.1 aN
         exact m7 c gG) cq eS
        refine ⟨.slice (some ⟨w.heap.size,0,none⟩) (0+ys.length) cap,w',g',.inl ?_,t1,?_⟩
        ·rw [bM]
         simp only [builtin,List.map_cons,List.map_nil,q,Sem.run_bind,bN,Result.andThen_ok,Sem.run_pure]
        ·rw [dZ.1]
         simp only [Nat.zero_add]
         exact t2.put he dZ.2 (.bI _ _ _ _ _ _ cap t3 t4 (by simp) (by omega)) (.jX fun _ _ _ h=>by simp at h)
    ·cases he
   ·rename_i id n jW b8 ys aB aI
    obtain ⟨y,aT,m8⟩:=bind_some aI
    split at he
    ·rename_i bH cs bG
     split at he
     ·rename_i ah
      obtain ⟨rfl,rfl,rfl,aqN,c7⟩:=ah
      obtain ⟨b,k,cap,an,ar,aO,bD,ew⟩:=(ca h hu aB).oY
      obtain ⟨news,et,ey,hi,qn⟩:=Dh h (ca h ai aT) m8
      obtain ⟨bE,k',aG,qm,aJ,⟨arr,bo,cd⟩,i0,mv,dV,fY,jY,pf,pg,MX⟩:=h.heap _ _ bG
      rw [an] at aG;simp at aG;subst aG
      rw [ar] at qm;simp at qm;subst qm
      have Dj:=dV
      rw [av] at Dj;simp at Dj;subst Dj
      obtain ⟨ws,cf,cY,eS,fJ⟩:=aJ.cells (off:=0) (n:=n*i.size)
      simp only [List.drop_zero] at cf cY
      obtain ⟨arr',MT,eA,gp,gq,ph,aax⟩:=aJ
      rw [bo] at eA;simp at eA;obtain ⟨rfl,rfl⟩:=eA
      rw [Nat.zero_add] at aO
      have o4:cap≤maxLen:=by
       have:cap*i.size≤maxLen*i.size:=by omega
       exact Nat.le_of_mul_le_mul_right this fY
      have aqO:n*i.size≤arr.size:=by omega
      have Dk:ws.length=n*i.size:=by
       have:=cY.get.1;simp at this;omega
      have kF:arr.toList.take (n*i.size)=ws:=by
       apply List.ext_getElem?
       intro j
       rw [List.getElem?_take]
       split
       ·rename_i a6
        have nc:j<ws.length:=by omega
        have R:=fJ j ws[j] (by simp [nc])
        simp only [World.cell?,bo,Nat.zero_add] at R
        rw [List.getElem?_eq_getElem nc,Array.getElem?_toList]
        simpa using R
       ·rename_i a6
        rw [List.getElem?_eq_none (by omega)]
      have dx:w.ownsRow 0 bH i.size (.slice (some ⟨b,0,none⟩) n cap) n ws:=⟨Dk,.inr ⟨b,cap,arr,rfl,Nat.zero_le _,bo,bD,o4,by omega,kF⟩⟩
      have k2:id<s.heap.length:=(List.getElem?_eq_some_iff.1 bG).1
      have De:=h.dead id
      have aay:∀arr' n',w.heap[b]?≠some (.map arr' n'):=by simp [bo]
      have aaz:∀x∈(cs.take (n*i.size)).map AV.aL++(ys.map fun v:AV=>v.cells.map AV.aL).flatten,cc x:=fun x ai=>by
       rcases List.mem_append.1 ai with ai | ai
       ·exact m7 x ai
       ·obtain ⟨l,aN,gG⟩:=List.mem_flatten.1 ai
        obtain ⟨v,_,rfl⟩:=List.mem_map.1 aN
        exact m7 x gG
      have kA:bW g ((cs.take (n*i.size)).map AV.aL++(ys.map fun v:AV=>v.cells.map AV.aL).flatten) (ws++news):=cY.aL.append ey
      have iF:∀u∈ws++news,u.oneCell'=true:=fun u hu=>by
       rcases List.mem_append.1 hu with hu | hu
       ·exact eS u hu
       ·exact hi u hu
      have aaA:({ s with heap:=s.heap.set id .dead }:ae).heap.length=s.heap.length:=by simp
      -- where the result lies
      have pj:∃nb h0 w' cur,(Builtin.append_ #[t,ht] o.type #[.slice (some ⟨b,0,none⟩) n cap,a.eval a9]).run P w=.ok (.slice (some ⟨nb,0,none⟩) (n+ys.length) h0) w'∧(nb=b∨nb=w.heap.size)∧w.heap.size≤w'.heap.size∧((w'.os,w'.tape)=(w.os,w.tape)∧w'.output=w.output) ∧
        (∀k,k≠nb→k<w.heap.size→w'.heap[k]?=w.heap[k]?)∧w'.heap[nb]?=some (.cells cur bH (0,0))∧n+ys.length≤h0∧h0≤maxLen∧cur.size=h0*i.size∧∀(j:Nat) u,(ws++news)[j]?=some u→cur[j]?=some u:=by
       by_cases jc:0<ys.length
       ·obtain ⟨bP,w',bN,cb,ds,dz,c3⟩:=MW dx jc c7 et hi (by
         rcases qn with ⟨bK,b,k,cg,cS⟩ | ⟨bK,l,cg,cS,eC,eK⟩
         ·exact .inl ⟨bK,b,k,cg,cS⟩
         ·exact .inr ⟨bK,l,cg,cS,eC,eK⟩)
        rcases cb.2 with ⟨rfl,a0⟩ | ⟨nb,h0,cur,rfl,_,d1,d2,d3,d4,d5⟩
        ·omega
        ·refine ⟨nb,h0,w',cur,bN,?_,ds,c3,?_,d1,d2,d3,d4,fun j u a6=>?_⟩
         ·rcases dz with ⟨bK,_⟩ | ⟨bK,_⟩
          ·left;simpa [Value.ownBlock] using bK
          ·right;simpa [Value.ownBlock] using bK
         ·intro k ab bz
          rcases dz with ⟨bK,_,cS⟩ | ⟨bK,_,cS⟩
          ·exact cS k (by rw [←bK];simpa [Value.ownBlock] using ab)
          ·exact cS k bz
         ·rw [←d5] at a6
          rw [List.getElem?_take] at a6
          split at a6
          ·simpa using a6
          ·cases a6
       ·have a0:ys=[]:=List.eq_nil_of_length_eq_zero (by omega)
        have aA:=n9 (base:=some ⟨b,0,none⟩) (n:=n) (c:=cap) a0 (by
         rcases qn with ⟨bK,b,k,cg,_⟩ | ⟨bK,l,cg,_,eC,_⟩
         ·exact .inl ⟨bK,b,k,cg⟩
         ·exact .inr ⟨bK,l,cg,eC⟩) bD (by simp)
        have k4:news=[]:=List.eq_nil_of_length_eq_zero (by rw [et,a0];simp)
        refine ⟨b,cap,w,arr,by rw [aA,a0];rfl,.inl rfl,Nat.le_refl _,⟨rfl,rfl⟩,fun _ _ _=>rfl,bo,by rw [a0];exact bD,o4,by omega,fun j u a6=>?_⟩
        rw [k4,List.append_nil,←kF,List.getElem?_take] at a6
        split at a6
        ·simpa using a6
        ·cases a6
      obtain ⟨nb,h0,w',cur,bN,cb,ds,c3,dz,ez,jF,k8,yU,yV⟩:=pj
      obtain ⟨g',t1,t2,t3,t4⟩:=De.yS (w':=w') (nb:=nb) (sz:=i.size) (us:=ws++news) (c:=h0) (by
       rcases cb with rfl | rfl
       ·exact .inr ⟨id,gq,by simp [k2],an,aay⟩
       ·exact .inl h.s7) (by
       rcases cb with rfl | rfl
       ·exact ph
       ·exact h.n2) dz ds c3 ez yU yV kA iF aaz cq k8
      rw [aaA] at t3 t4
      refine ⟨.slice (some ⟨nb,0,none⟩) (n+ys.length) h0,w',g',.inl ?_,t1,?_⟩
      ·rw [bM]
       simp only [builtin,List.map_cons,List.map_nil,ew,Sem.run_bind,bN,Result.andThen_ok,Sem.run_pure]
      ·rw [dZ.1]
       exact t2.put he dZ.2 (.bI _ _ _ _ _ _ h0 t3 t4 (by simp) jF) (.jX fun _ _ _ h=>by simp at h)
     ·cases he
    ·cases he
   ·cases he
 ·cases aD
theorem aaB {d u:Nat} {x:aq} {e sz:Nat} (h:Rel P gl N g s a w) (af:tq P N o d u x e sz=true) (he:au gl s (.mS d u x e sz)=some s'):cJ P gl N o g a w s':=by
 simp only [tq,td,Bool.and_eq_true] at af
 obtain ⟨aw,aD⟩:=af
 split at aD
 ·rename_i gF a9 t ht aE
  obtain ⟨nZ,bM⟩:=m4 (o:=o) aE rfl a.eval
  simp only [Bool.and_eq_true,beq_iff_eq] at aD
  obtain ⟨⟨⟨rfl,rfl⟩,ai⟩,ab⟩:=aD
  obtain ⟨hu,ab⟩:=rq ab
  have dZ:=aw
  simp only [b2,Bool.and_eq_true,beq_iff_eq,decide_eq_true_eq] at dZ
  simp only [au] at he
  split at he
  ·rename_i b8 gA ys aS aT
   obtain ⟨y,aT,m8⟩:=bind_some aT
   split at he
   ·rename_i ah
    obtain ⟨rfl,rfl,c7⟩:=ah
    obtain ⟨v,aG,aJ,_⟩:=h.env _ _ aS
    obtain ⟨jG,rfl⟩:=aJ.MN
    obtain ⟨i,z,bf,bu,b5,cy,eW,eF⟩:=ky ab
    obtain ⟨news,et,ey,hi,qn⟩:=Dh (sb:=false) h (ca h ai aT) m8
    have cD:a.eval (.tmp gF)=.slice jG 0 0:=by simp [Act.eval,aG]
    rcases qn with ⟨_,base,cap,an,aO⟩ | ⟨a0,_⟩
    ·cases ys with
     | nil =>
      have aA:=MQ (P:=P) (w:=w) (ty:=o.type) hu bf jG base cap
      simp only at he
      refine .value (v:=.slice jG 0 0) h aw he ?_ (.pure _ _ (.fP _ _ _ (by simp))) (cc.none _ _)
      rw [bM]
      simp only [builtin,List.map_cons,List.map_nil,cD,an,List.length_nil,Sem.run_bind,aA,Result.andThen_ok,Sem.run_pure]
     | cons hP vY =>
      simp only at he
      generalize fe:hP::vY=ys at *
      have ck:ys≠[]:=by rw [←fe];simp
      have jc:0<ys.length:=List.length_pos_iff.2 ck
      rcases aO with aO | ⟨b,off,rfl,bD⟩
      ·exact absurd aO ck
      subst bu
      obtain ⟨bP,w',bN,cb,ds,dz,ez,c3⟩:=MO (P:=P) (w:=w) (ty:=o.type) (c:=cap) hu bf cy (by omega) jG et bD jc c7 eF
      rcases cb.2 with ⟨rfl,_⟩ | ⟨nb,h0,cur,rfl,_,cf,cY,eS,fJ,iM⟩
      ·simp [Value.ownBlock] at ds
      ·simp [Value.ownBlock] at ds;subst ds
       obtain ⟨g',t1,t2,t3,t4⟩:=h.yS (w':=w') (nb:=w.heap.size) (us:=news) (c:=h0) (.inl h.s7) h.n2 (fun k ab bz=>ez k bz) (by omega) c3 cf fJ (fun j u a6=>by
        have:(cur.toList.take (ys.length*i.size))[j]?=some u:=by rw [iM];exact a6
        rw [List.getElem?_take] at this
        split at this
        ·simpa using this
        ·cases this) ey hi (fun c af=>by
        obtain ⟨l,aN,gG⟩:=List.mem_flatten.1 af
        obtain ⟨v,_,rfl⟩:=List.mem_map.1 aN
        exact m7 c gG) ab eS
       refine ⟨.slice (some ⟨w.heap.size,0,none⟩) ys.length h0,w',g',.inl ?_,t1,?_⟩
       ·rw [bM]
        simp only [builtin,List.map_cons,List.map_nil,cD,an,Sem.run_bind,bN,Result.andThen_ok,Sem.run_pure]
       ·rw [dZ.1]
        exact t2.put he dZ.2 (.bI _ _ _ _ _ _ h0 t3 t4 (by simp) cY) (.jX fun _ _ _ h=>by simp at h)
    ·cases a0
   ·cases he
  ·cases he
 ·cases aD
end
end AM
/-! Heap slices become immutable. -/
namespace AM
open Go
section
variable {P:Program} {gl:aR} {N:Nat} {g g':a5} {s s':ae} {a:Act} {w w':World} {o:Oper}
theorem Rel.aaC (h:Rel P gl N g s a w) {id b:Nat} {ws:List Value} {ow:dh} (bG:s.heap[id]?=some .dead) (ah:g.b4 id=some b) (aE:g.bd b=.bt id) (fI:∀off,g.γ b off=none) (hm:∀arr n,w.heap[b]?≠some (.map arr n))
  (af:∀(j:Nat) u,ws[j]?=some u→w.cell? ⟨b,j,none⟩=some u):dj g w (g.app b ws ow) w∧Rel P gl N (g.app b ws ow) s a w:=by
 have aK:GhLe g (g.app b ws ow):=⟨fun k off v ax=>by
  have:k≠b:=by rintro rfl;rw [fI] at ax;cases ax
  simpa [a5.app,this] using ax,fun _ _ h=>h⟩
 have ab:Kept g w (g.app b ws ow) w fun o=>o≠.bt id:=fun k ab=>by
  have:k≠b:=by rintro rfl;exact ab aE
  exact ⟨by simp [a5.app,this],rfl,fun _=>by simp [a5.app,this]⟩
 refine ⟨⟨aK,fun k qo=>?_,Nat.le_refl _,rfl,rfl⟩,?_⟩
 ·have:k≠b:=by rintro rfl;have:=aE.symm.trans qo;cases this
  exact ⟨by simpa [a5.app,this] using qo,rfl,fun _=>by simp [a5.app,this]⟩
 ·refine ⟨h.sorted,h.size,h.defers,fun t e he=>(h.env t e he).kept aK ab (by simp) (by simp) (by simp),fun eP bt bh=>?_,fun k off v ax=>?_,fun k ab=>?_,fun n x ai=>(h.e4 n x ai).mono aK.γ,h.er⟩
  ·by_cases e:eP=id
   ·subst e;rw [bG] at bh;simp at bh;subst bh;trivial
   ·exact (h.heap eP bt bh).beside aK ab e ah hm (fun i av=>by simp [av]) (by simp)
  ·by_cases e:k=b
   ·subst e
    simp only [a5.app,if_true] at ax
    exact af off v ax
   ·simp only [a5.app,e,if_false] at ax
    exact h.dY k off v ax
  ·by_cases e:k=b
   ·subst e;exact h.own k (by rw [aE];simp)
   ·simp only [a5.app,e,if_false] at ab;exact h.own k ab
theorem MY (h:Rel P gl N g s a w) {id n e sz:Nat} {cs:List AV} {v:Value} (ax:aU g (.bI id 0 n sz) v) (bG:s.heap[id]?=some (.buf e cs)) (cq:hf P e sz=true) (a1:n*sz≤cs.length) (ao:((cs.take (n*sz)).map AV.aL).all AV.dw=true) (c7:n≤M) (ow:dh) :
  ∃g',dj g w g' w∧Rel P gl N g' { s with heap:=s.heap.set id .dead } a w∧cp g'.γ (.list none sz (chunk sz n ((cs.take (n*sz)).map AV.aL))) v ∧
   dX P g' w ow (.list (some e) sz (chunk sz n ((cs.take (n*sz)).map AV.aL))) v:=by
 obtain ⟨b,k,cap,an,ar,aO,bD,rfl⟩:=ax.oY
 obtain ⟨bE,k',aG,qm,aJ,⟨arr,bo,cd⟩,i0,mv,dV,fY,jY,pf,pg,MX⟩:=h.heap _ _ bG
 rw [an] at aG;simp at aG;subst aG
 rw [ar] at qm;simp at qm;subst qm
 obtain ⟨i,z,bf,bu,b5,cy,eW,eF⟩:=ky cq
 rw [bf] at dV;simp at dV;subst dV
 obtain ⟨ws,cf,cY,eS,fJ⟩:=aJ.cells (off:=0) (n:=n*sz)
 simp only [List.drop_zero] at cf cY
 obtain ⟨arr',MT,eA,gp,gq,ph,aax⟩:=aJ
 rw [bo] at eA;simp at eA;obtain ⟨rfl,rfl⟩:=eA
 rw [Nat.zero_add] at aO
 have k2:id<s.heap.length:=(List.getElem?_eq_some_iff.1 bG).1
 have Dk:ws.length=n*sz:=by have:=cY.get.1;simp at this;omega
 have g3:∀(j:Nat) u,ws[j]?=some u→w.cell? ⟨b,j,none⟩=some u:=fun j u hu=>by simpa using fJ j u hu
 obtain ⟨t1,t2⟩:=(h.dead id).aaC (id:=id) (b:=b) (ws:=ws) (ow:=ow) (by simp [k2]) an gq ph (by simp [bo]) g3
 have aaD:e3 (g.app b ws ow).γ ((cs.take (n*sz)).map AV.aL) ws:=e3.mono t1.γ (cY.aL.Ce ao eS)
 have aaE:dt (g.app b ws ow).γ b 0 ((cs.take (n*sz)).map AV.aL):=dt.yv aaD fun j u hu=>by simp [a5.app,hu]
 have hlen:((cs.take (n*sz)).map AV.aL).length=n*sz:=by simp;omega
 obtain ⟨aA,aN⟩:=Cv b5 n 0 _ hlen aaE
 refine ⟨_,t1,t2,.s5 aN.symm (by omega) (by omega) aA,?_⟩
 intro bB jW xs ai
 simp only [AV.list.injEq,Option.some.injEq] at ai
 obtain ⟨rfl,rfl,rfl⟩:=ai
 have o4:cap≤maxLen:=by
  have:cap*i.size≤maxLen*i.size:=by rw [bu];rw [bu] at MX;omega
  exact Nat.le_of_mul_le_mul_right this fY
 have kF:arr.toList.take (n*sz)=ws:=by
  apply List.ext_getElem?
  intro j
  rw [List.getElem?_take]
  split
  ·rename_i a6
   have nc:j<ws.length:=by omega
   have R:=fJ j ws[j] (by simp [nc])
   simp only [World.cell?,bo,Nat.zero_add] at R
   rw [List.getElem?_eq_getElem nc,Array.getElem?_toList]
   simpa using R
  ·rename_i a6
   rw [List.getElem?_eq_none (by omega)]
 refine ⟨i,z,ws,bf,bu,b5,cy,eW,eF,by omega,⟨by rw [aN];exact Dk,.inr ⟨b,cap,arr,by rw [aN],Nat.zero_le _,bo,by rw [aN];exact bD,o4,by omega,by rw [aN];exact kF⟩⟩,fun bE eb=>?_⟩
 simp only [Value.ownBlock,Option.some.injEq] at eb
 subst eb
 refine ⟨by simp [a5.app],aA,fun off rh=>?_⟩
 simp only [a5.app,if_true]
 rw [List.getElem?_eq_none];rw [aN] at rh;omega
def rH (s:ae) (t e sz:Nat):Option ae:=match Env.get s.env t with
 | some (.v (.bI id 0 n b8))=>match s.heap[id]? with
  | some (.buf bH cs)=>if bH=e∧b8=sz∧n*sz≤cs.length∧((cs.take (n*sz)).map AV.aL).all AV.dw=true∧n≤M then
    some { env:=s.env.ins t (.v (.list (some e) sz (chunk sz n ((cs.take (n*sz)).map AV.aL)))),heap:=s.heap.set id .dead } else none
  | _=>none
 | some (.v _)=>some s
 | _=>none
def yW (s:ae) (t off e sz:Nat):Option ae:=match Env.get s.env t with
 | some (.b jG)=>match jG[off]? with
  | some (.bI id 0 n b8)=>match s.heap[id]? with
   | some (.buf bH cs)=>if bH=e∧b8=sz∧n*sz≤cs.length∧((cs.take (n*sz)).map AV.aL).all AV.dw=true∧n≤M then
     some { env:=s.env.ins t (.b (jG.set off (.list none sz (chunk sz n ((cs.take (n*sz)).map AV.aL))))),heap:=s.heap.set id .dead } else none
   | _=>none
  | some _=>some s
  | none=>none
 | _=>none
theorem Rel.aaF (h:Rel P gl N g s a w) {t:Nat} {x y:AV} {v:Value} (aF:s.env.get t=some (.v x)) (ax:a.tmps[t]?=some v) (aT:aU g y v) (aE:dX P g w (.var t) y v):Rel P gl N g { s with env:=s.env.ins t (.v y) } a w:=by
 refine ⟨Env.cR.ins h.sorted t _,h.size,h.defers,fun u e he=>?_,h.heap,h.dY,h.own,h.e4,h.er⟩
 simp only at he ⊢
 rw [Env.fm] at he
 split at he
 ·rename_i bB;subst bB;simp at he;subst he
  exact ⟨v,ax,aT,aE⟩
 ·rename_i bB
  have R:=h.env u e he
  cases e with
  | v y=>exact R
  | b cs=>exact R
  | a gF off =>
   obtain ⟨⟨cs,hu⟩,p⟩:=R
   refine ⟨⟨cs,?_⟩,p⟩
   rw [Env.fm]
   have:gF≠t:=by rintro rfl;rw [aF] at hu;simp at hu
   simp [this,hu]
theorem Rel.jV (h:Rel P gl N g s a w) {t e sz:Nat} (cq:hf P e sz=true) (he:rH s t e sz=some s'):∃g',dj g w g' w∧Rel P gl N g' s' a w:=by
 unfold rH at he
 split at he
 ·rename_i id n b8 aF
  split at he
  ·rename_i bH cs bG
   split at he
   ·rename_i ah
    obtain ⟨rfl,rfl,gC,fG,o6⟩:=ah
    simp only [Option.some.injEq] at he;subst he
    obtain ⟨v,aG,aJ,_⟩:=h.env _ _ aF
    obtain ⟨g',an,ar,aO,bD⟩:=MY h aJ bG cq gC fG o6 (.var t)
    exact ⟨g',an,ar.aaF aF aG (.own _ _ _ _ aO) bD⟩
   ·cases he
  ·cases he
 ·simp at he;subst he;exact ⟨g,.refl _ _,h⟩
 ·cases he
theorem Rel.aaG (h:Rel P gl N g s a w) {t off:Nat} {jG:List AV} {x y:AV} (aF:s.env.get t=some (.b jG)) (ai:jG[off]?=some x) (aT:∀v,aU g x v→aU g y v) (a1:cc y):Rel P gl N g { s with env:=s.env.ins t (.b (jG.set off y)) } a w:=by
 refine ⟨Env.cR.ins h.sorted t _,h.size,h.defers,fun u e he=>?_,h.heap,h.dY,h.own,h.e4,h.er⟩
 simp only at he ⊢
 rw [Env.fm] at he
 split at he
 ·rename_i bB;subst bB;simp at he;subst he
  obtain ⟨b,aG,arr,ty,an,ar,aO,bD,ew⟩:=h.env _ _ aF
  refine ⟨b,aG,arr,ty,an,by simpa using ar,aO,bD,fun i c af=>?_⟩
  rw [List.getElem?_set] at af
  split at af
  ·rename_i aB;subst aB
   split at af
   ·simp at af;subst af
    obtain ⟨v,bf,bu,b5,cy⟩:=ew _ _ ai
    exact ⟨v,bf,bu,aT v b5,a1.fo⟩
   ·cases af
  ·exact ew i c af
 ·rename_i bB
  have R:=h.env u e he
  cases e with
  | v y=>exact R
  | b cs=>exact R
  | a gF off =>
   obtain ⟨⟨cs,hu⟩,p⟩:=R
   refine ⟨?_,p⟩
   rw [Env.fm]
   by_cases aB:gF=t
   ·simp [aB]
   ·simp [aB,hu]
theorem Rel.mX (h:Rel P gl N g s a w) {t off e sz:Nat} (cq:hf P e sz=true) (he:yW s t off e sz=some s'):∃g',dj g w g' w∧Rel P gl N g' s' a w:=by
 unfold yW at he
 split at he
 ·rename_i jG aF
  split at he
  ·rename_i id n b8 ai
   split at he
   ·rename_i bH cs bG
    split at he
    ·rename_i ah
     obtain ⟨rfl,rfl,gC,fG,o6⟩:=ah
     simp only [Option.some.injEq] at he;subst he
     obtain ⟨b,aG,arr,ty,an,ar,aO,bD,ew⟩:=h.env _ _ aF
     obtain ⟨v,bf,bu,b5,cy⟩:=ew _ _ ai
     obtain ⟨g',an,ar,aO,_⟩:=MY h b5 bG cq gC fG o6 .vj
     refine ⟨g',an,ar.aaG (s:={ s with heap:=s.heap.set id .dead }) aF ai (fun bP cF=>?_) (cc.none _ _)⟩
     have pk:=b5.mono an.toGhLe
     obtain ⟨_,_,_,_,_,qg,_⟩:=ky cq
     obtain ⟨e5,bN,cf,bK,cg,cS,eC,rfl⟩:=pk.oY
     obtain ⟨eQ,cb,cY,et,ey,hi,qn,rfl⟩:=cF.oY
     rw [bK] at et;simp at et;subst et
     rw [cg] at ey;simp at ey;subst ey
     have v5:cf=cY:=Nat.eq_of_mul_eq_mul_right (show 0<b8 by omega) (by omega)
     subst v5
     exact .pure _ _ aO
    ·cases he
   ·cases he
  ·simp at he;subst he;exact ⟨g,.refl _ _,h⟩
  ·cases he
 ·cases he
end
end AM
