/- An abstract machine for the program of the seat, and what of the given program it does, part 5 of 17. Conditions: none. -/
import Derived.Test.YtjpfdkecffnlbaaGreatDoorAm3
import Derived.Laws.AppendOwnNone
set_option linter.unusedVariables false
set_option linter.unusedSimpArgs false
/-! The simulation of structs, arrays' slices, made slices, appends. -/
namespace AM
open Go
section
variable {P:Program} {gl:aR} {N:Nat} {g g':a5} {s s':ae} {a:Act} {w w':World} {o:Oper}
theorem LY {α β:Type} {f:α→Sem β} {h:α→β}:∀{xs:List α},(∀x∈xs,(f x).run P w=.ok (h x) w)→(xs.mapM f).run P w=.ok (xs.map h) w
 | [],_=>by simp
 | x::xs,ai=>by
  have R:=ai x (by simp)
  have aa:=LY (xs:=xs) fun y aT=>ai y (by simp [aT])
  simp only [List.mapM_cons,Sem.run_bind,R,Result.andThen_ok,aa,Sem.run_pure,List.map_cons]
theorem YS {α β:Type} {f:α→Sem β} {h:α→β} {xs:Array α} (ai:∀x∈xs.toList,(f x).run P w=.ok (h x) w):(xs.mapM f).run P w=.ok (xs.map h) w:=by
 rw [Array.mapM_eq_mapM_toList,Sem.run_map,LY ai]
 simp only [Result.andThen_ok]
 congr 1
 apply Array.ext';simp
theorem bW.append {xs ys:List AV} {us vs:List Value} (h:bW g xs us) (cC:bW g ys vs):bW g (xs++ys) (us++vs):=by
 induction us generalizing xs with
 | nil=>cases h;exact cC
 | cons u us ih=>cases h with | cons _ _ _ _ R aa=>exact .cons _ _ _ _ R (ih aa)
theorem bW.take {xs:List AV} {us:List Value} (h:bW g xs us) (n:Nat):bW g (xs.take n) (us.take n):=by
 induction us generalizing xs n with
 | nil=>cases h;simpa using bW.nil
 | cons u us ih=>cases h with
  | cons _ _ _ _ R aa=>cases n with
   | zero=>exact .nil
   | succ n=>exact .cons _ _ _ _ R (ih aa n)
theorem bW.drop {xs:List AV} {us:List Value} (h:bW g xs us) (n:Nat):bW g (xs.drop n) (us.drop n):=by
 induction us generalizing xs n with
 | nil=>cases h;simpa using bW.nil
 | cons u us ih=>cases h with
  | cons _ _ _ _ R aa=>cases n with
   | zero=>exact .cons _ _ _ _ R aa
   | succ n=>exact ih aa n
def LZ (P:Program) (cu:Array Field) (i off n:Nat):Bool :=
 match cu[i]? with
 | some f=>f.offset==off&&(match P.info? f.type with | some j=>j.size==n | none=>false)
 | none=>false
def ta (P:Program) (cu:Array Field):List (Nat×Operand)→List (Nat×Nat×aq)→Bool
 | [],[]=>true
 | (i,a9)::r,(off,n,x)::cQ=>LZ P cu i off n&&cA a9 x&&ta P cu r cQ
 | _,_=>false
def L0 (P:Program) (t:TypeId) (bT:List (Nat×Operand)) (parts:List (Nat×Nat×aq)):Bool :=
 match P.underlying t with
 | some (.struct cu)=>cu.toList.all (fun f=>(P.info? f.type).isSome)&&ta P cu bT parts
 | _=>false
def tb (sz:Nat):List (Nat×Operand)→List (Nat×Nat×aq)→Bool
 | [],[]=>true
 | (i,a9)::r,(off,n,x)::cQ=>off==i*sz&&n==sz&&cA a9 x&&tb sz r cQ
 | _,_=>false
def L1 (P:Program) (t:TypeId) (bT:List (Nat×Operand)) (parts:List (Nat×Nat×aq)):Bool :=
 match P.underlying t with
 | some (.array _ e)=>(match P.info? e with | some i=>tb i.size bT parts | none=>false)
 | _=>false
def Cl (P:Program) (N:Nat) (o:Oper) (d:Nat) (z:List AV) (parts:List (Nat×Nat×aq)):Bool:=b2 N o d &&
 (match o.op with | .build t bT=>rn P t z&&(L0 P t bT.toList parts||L1 P t bT.toList parts) | _=>false)
theorem L2 (h:Rel P gl N g s a w) (cu:Array Field) (places:Array (Nat×Nat)) (L3:∀(i:Nat) f,cu[i]?=some f→places[i]?=some (f.offset,P.cellsOf f.type)) :
  ∀(parts:List (Nat×Nat×aq)) (bT:List (Nat×Operand)) (cs cG:List AV) (A:Array Value),ta P cu bT parts=true→jA gl s.env cs parts=some cG→bW g cs A.toList→(∀v∈A.toList,v.oneCell'=true) →
   ∃B,Instr.fill (places[·]?) A (bT.map fun (i,x)=>(i,a.eval x))=some B∧bW g cG B.toList∧∀v∈B.toList,v.oneCell'=true
 | [],bT,cs,cG,A,ao,aP,ax,R=>by
  cases bT with
  | cons=>simp [ta] at ao
  | nil=>simp [jA] at aP;subst aP;exact ⟨A,rfl,ax,R⟩
 | (off,n,x)::parts,bT,cs,cG,A,ao,aP,ax,R=>by
  cases bT with
  | nil=>simp [ta] at ao
  | cons p bT =>
   obtain ⟨i,a9⟩:=p
   simp only [ta,Bool.and_eq_true] at ao
   obtain ⟨⟨hx,ja⟩,Cm⟩:=ao
   unfold LZ at hx
   split at hx
   ·rename_i f YT
    simp only [Bool.and_eq_true,beq_iff_eq] at hx
    obtain ⟨rfl,hx⟩:=hx
    split at hx
    ·rename_i j a6
     simp at hx
     have L4:=L3 i f YT
     have vD:P.cellsOf f.type=n:=by simp [Program.cellsOf,a6,hx]
     rw [vD] at L4
     simp only [jA] at aP
     split at aP
     ·rename_i u hu
      split at aP
      ·rename_i ah
       obtain ⟨gC,fG,o6⟩:=ah
       obtain ⟨an,ar⟩:=(ca h ja hu).cells o6
       have vE:A.toList.length=cs.length:=ax.get.1
       have vF:(a.eval a9).cells.size=n:=by have:=an.get.1;simp at this;omega
       have o7:=yw f.offset (a.eval a9).cells.toList 0 A (by simp at vE ⊢;omega)
       simp only [Nat.add_zero] at o7
       have dk:((a.eval a9).cells.zipIdx.foldl (fun cs (c,j)=>cs.setIfInBounds (f.offset+j) c) A)=((a.eval a9).cells.toList.zipIdx.foldl (fun cs (c,j)=>cs.setIfInBounds (f.offset+j) c) A):=by
        rw [←Array.foldl_toList];simp
       have vG:(u.cells.map AV.aL).length=n:=by simpa using gC
       obtain ⟨B,bf,bu,b5⟩:=L2 h cu places L3 parts bT _ cG ((a.eval a9).cells.zipIdx.foldl (fun cs (c,j)=>cs.setIfInBounds (f.offset+j) c) A) Cm aP (by
        rw [dk,o7,vy _ _ _ (by rw [vG];exact fG),vG]
        have:(a.eval a9).cells.toList.length=n:=by simpa using vF
        rw [this]
        exact ((ax.take _).append an.aL).append (ax.drop _)) (by
        rw [dk,o7]
        intro v cF
        rcases List.mem_append.1 cF with cF | cF
        ·rcases List.mem_append.1 cF with cF | cF
         ·exact R v (List.mem_of_mem_take cF)
         ·exact ar v cF
        ·exact R v (List.mem_of_mem_drop cF))
       refine ⟨B,?_,bu,b5⟩
       simp only [List.map_cons,Instr.fill,L4]
       rw [if_neg (by simp [vF];simp at vE;omega)]
       exact bf
      ·cases aP
     ·cases aP
    ·cases hx
   ·cases hx
theorem L5 (h:Rel P gl N g s a w) (sz:Nat):∀(parts:List (Nat×Nat×aq)) (bT:List (Nat×Operand)) (cs cG:List AV) (A:Array Value),tb sz bT parts=true→jA gl s.env cs parts=some cG→bW g cs A.toList→(∀v∈A.toList,v.oneCell'=true) →
   ∃B,Instr.fill (fun i=>some (i*sz,sz)) A (bT.map fun (i,x)=>(i,a.eval x))=some B∧bW g cG B.toList∧∀v∈B.toList,v.oneCell'=true
 | [],bT,cs,cG,A,ao,aP,ax,R=>by
  cases bT with
  | cons=>simp [tb] at ao
  | nil=>simp [jA] at aP;subst aP;exact ⟨A,rfl,ax,R⟩
 | (off,n,x)::parts,bT,cs,cG,A,ao,aP,ax,R=>by
  cases bT with
  | nil=>simp [tb] at ao
  | cons p bT =>
   obtain ⟨i,a9⟩:=p
   simp only [tb,Bool.and_eq_true,beq_iff_eq] at ao
   obtain ⟨⟨⟨rfl,rfl⟩,ja⟩,Cm⟩:=ao
   simp only [jA] at aP
   split at aP
   ·rename_i u hu
    split at aP
    ·rename_i ah
     obtain ⟨gC,fG,o6⟩:=ah
     obtain ⟨an,ar⟩:=(ca h ja hu).cells o6
     have vE:A.toList.length=cs.length:=ax.get.1
     have vF:(a.eval a9).cells.size=n:=by have:=an.get.1;simp at this;omega
     have o7:=yw (i*n) (a.eval a9).cells.toList 0 A (by simp at vE ⊢;omega)
     simp only [Nat.add_zero] at o7
     have dk:((a.eval a9).cells.zipIdx.foldl (fun cs (c,j)=>cs.setIfInBounds (i*n+j) c) A)=((a.eval a9).cells.toList.zipIdx.foldl (fun cs (c,j)=>cs.setIfInBounds (i*n+j) c) A):=by
      rw [←Array.foldl_toList];simp
     have vG:(u.cells.map AV.aL).length=n:=by simpa using gC
     obtain ⟨B,bf,bu,b5⟩:=L5 h n parts bT _ cG ((a.eval a9).cells.zipIdx.foldl (fun cs (c,j)=>cs.setIfInBounds (i*n+j) c) A) Cm aP (by
      rw [dk,o7,vy _ _ _ (by rw [vG];exact fG),vG]
      have:(a.eval a9).cells.toList.length=n:=by simpa using vF
      rw [this]
      exact ((ax.take _).append an.aL).append (ax.drop _)) (by
      rw [dk,o7]
      intro v cF
      rcases List.mem_append.1 cF with cF | cF
      ·rcases List.mem_append.1 cF with cF | cF
       ·exact R v (List.mem_of_mem_take cF)
       ·exact ar v cF
      ·exact R v (List.mem_of_mem_drop cF))
     refine ⟨B,?_,bu,b5⟩
     simp only [List.map_cons,Instr.fill]
     rw [if_neg (by simp [vF];simp at vE;omega)]
     exact bf
    ·cases aP
   ·cases aP
theorem YU {d:Nat} {z:List AV} {parts:List (Nat×Nat×aq)} (h:Rel P gl N g s a w) (af:Cl P N o d z parts=true) (he:au gl s (.build d z parts)=some s'):cJ P gl N o g a w s':=by
 simp only [Cl,Bool.and_eq_true] at af
 obtain ⟨aw,aD⟩:=af
 split at aD
 ·rename_i t bT aE
  simp only [Bool.and_eq_true] at aD
  obtain ⟨bx,ab⟩:=aD
  obtain ⟨i,hj,aG,aJ,bo,cd,dV⟩:=s8 (g:=g) bx
  rcases Bool.or_eq_true _ _▸ab with ab | ab
  rotate_left
  ·unfold L1 at ab
   split at ab
   ·rename_i m e hu
    split at ab
    ·rename_i j a6
     obtain ⟨cs,aB,aI⟩:=bind_some he
     obtain ⟨B,an,ar,aO⟩:=L5 h j.size parts bT.toList z cs hj.cells ab aB bo cd
     refine .value h aw aI (v:=.agg B) ?_ (by have:=aU.agg cs B.toList ar aO;simpa using this) (fun _ _ _ h=>by simp at h)
     have j4:(bT.map fun (i,x)=>(i,a.eval x)).toList=bT.toList.map fun (i,x)=>(i,a.eval x):=by simp
     simp only [execOp,aE,Sem.run_bind,Instr.build,zeroValue,typeInfo,run_program,aG,Result.andThen_ok,Sem.run_pure,aJ,run_underlying hu,Go.sizeOf,a6,j4,an]
    ·cases ab
   ·cases ab
  unfold L0 at ab
  split at ab
  ·rename_i cu hu
   simp only [Bool.and_eq_true,List.all_eq_true] at ab
   obtain ⟨fh,ga⟩:=ab
   obtain ⟨cs,aB,aI⟩:=bind_some he
   have o8:(cu.mapM fun f=>do pure (f.offset,←Go.sizeOf f.type):Sem (Array (Nat×Nat))).run P w=.ok (cu.map fun f=>(f.offset,P.cellsOf f.type)) w:=by
    refine YS fun f aP=>?_
    obtain ⟨j,a6⟩:=Option.isSome_iff_exists.1 (fh f aP)
    simp [Go.sizeOf,typeInfo,a6,Program.cellsOf]
   obtain ⟨B,an,ar,aO⟩:=L2 h cu (cu.map fun f=>(f.offset,P.cellsOf f.type)) (fun i f aP=>by simp [aP]) parts bT.toList z cs hj.cells ga aB bo cd
   refine .value h aw aI (v:=.agg B) ?_ (by have:=aU.agg cs B.toList ar aO;simpa using this) (fun _ _ _ h=>by simp at h)
   have j4:(bT.map fun (i,x)=>(i,a.eval x)).toList=bT.toList.map fun (i,x)=>(i,a.eval x):=by simp
   simp only [execOp,aE,Sem.run_bind,Instr.build,zeroValue,typeInfo,run_program,aG,Result.andThen_ok,Sem.run_pure,aJ,run_underlying hu,o8,j4,an]
  ·cases ab
 ·cases aD
def Cn (P:Program) (N:Nat) (o:Oper) (d:Nat) (c:aq) (e sz:Nat):Bool:=b2 N o d &&
 (match o.op with | .makeSlice t (.const (.int .i64 0)) fg=>cA fg c&&rp P t e sz | _=>false)
theorem L6 {n:Int} (a0:0≤n) (R:n≤M):IntKind.i64.wrap n=n:=by
 unfold M at R
 have:IntKind.i64.wrap n=n:=by
  simp [IntKind.wrap,IntKind.bits,IntKind.signed]
  omega
 exact this
theorem run_makeSlice {t e:TypeId} {i:TypeInfo} {z:Value} {k:IntKind} {n:Int} (hu:P.underlying t=some (.slice e)) (av:P.info? e=some i) (bx:i.zero=some z)
  (ah:i.bytes≤128) (a0:0≤n) (R:n≤M) :
  ∃arr:Array Value,arr.size=n.toNat*i.size∧(Instr.makeSlice t (.int .i64 0) (.int k n)).run P w=.ok (.slice (some ⟨w.heap.size,0,none⟩) 0 n.toNat) (w.alloc (.cells arr e)):=by
 refine ⟨(Array.range (n.toNat*i.size)).map ((if n.toNat*i.size=0 then #[] else z.cells)[· % (if n.toNat*i.size=0 then #[] else z.cells).size]!),by simp,?_⟩
 have hw:=L6 a0 R
 have yA:IntKind.i64.wrap 0=0:=by decide
 have c7:(M:Int)=1099511627776:=rfl
 have Co:((i.bytes:Nat):Int)*n≤128*1099511627776:=by
  have aa:((i.bytes:Nat):Int)*n≤128*n:=Int.mul_le_mul_of_nonneg_right (by omega) a0
  omega
 have al:¬(n<0∨((i.bytes:Nat):Int)*n>2 ^ 48):=by
  rintro (h | h)
  ·omega
  ·have:(2:Int) ^ 48=281474976710656:=by decide
   rw [this] at h;omega
 have aY:n.toNat*i.bytes≤roomBytes:=by
  have:((n.toNat*i.bytes:Nat):Int)=((i.bytes:Nat):Int)*n:=by rw [Int.natCast_mul,Int.toNat_of_nonneg a0,Int.mul_comm]
  have bn:roomBytes=140737488355328:=by decide
  omega
 have cw:¬(n<0):=by omega
 have dr:¬(((i.bytes:Nat):Int)*n>2 ^ 48):=fun h=>al (.inr h)
 simp only [Instr.makeSlice,Sem.run_bind,run_underlying hu,Result.andThen_ok,asInt,asIntOf,Sem.run_pure,typeInfo,run_program,av,hw,yA]
 simp only [cw,dr,decide_false,Bool.or_false,Bool.false_eq_true,if_false,Int.lt_irrefl,Bool.false_or]
 by_cases mo:n.toNat*i.size=0
 ·simp [askRoom,show ¬n.toNat*i.bytes>roomBytes by omega,Go.sizeOf,typeInfo,av,mo,newRow,newObj,Sem.run]
 ·simp [askRoom,show ¬n.toNat*i.bytes>roomBytes by omega,Go.sizeOf,typeInfo,av,mo,newRow,newObj,Sem.run,zeroValue,bx]
end
end AM
/-! The simulation of made slices and appends. -/
namespace AM
open Go
section
variable {P:Program} {gl:aR} {N:Nat} {g g':a5} {s s':ae} {a:Act} {w w':World} {o:Oper}
theorem YV {d e sz:Nat} {c:aq} (h:Rel P gl N g s a w) (af:Cn P N o d c e sz=true) (he:au gl s (.lz d c e sz)=some s'):cJ P gl N o g a w s':=by
 simp only [Cn,Bool.and_eq_true] at af
 obtain ⟨aw,aD⟩:=af
 split at aD
 ·rename_i t fg aE
  simp only [Bool.and_eq_true] at aD
  obtain ⟨ai,ab⟩:=aD
  obtain ⟨hu,ab⟩:=rq ab
  obtain ⟨i,z,bf,bu,b5,cy,eW,eF⟩:=ky ab
  simp only [au] at he
  split at he
  ·rename_i k n a1
   split at he
   ·rename_i ah
    have ax:=(ca h ai a1).hg
    obtain ⟨arr,bK,cg⟩:=run_makeSlice (P:=P) (w:=w) (k:=k) hu bf cy eF ah.1 ah.2
    simp only [b2,Bool.and_eq_true,beq_iff_eq,decide_eq_true_eq] at aw
    obtain ⟨an,ar⟩:=h.alloc (.cells arr e) (.var d)
    refine ⟨.slice (some ⟨w.heap.size,0,none⟩) 0 n.toNat,_,_,.inl ?_,an,?_⟩
    ·have a0:a.eval (.const (.int .i64 0))=.int .i64 0:=rfl
     simp only [execOp,aE,Sem.run_bind,ax,a0,cg];rfl
    ·rw [aw.1]
     refine ar.put he aw.2 (.own _ _ _ _ (.fP _ _ _ (by simp))) ?_
     intro bH b8 xs k3
     simp at k3;obtain ⟨rfl,rfl,rfl⟩:=k3
     refine ⟨i,z,[],bf,bu,b5,cy,eW,eF,by simp,World.ownsRow_made w arr n.toNat (Nat.zero_le _) (by have:=ah.2;unfold M at this;unfold maxLen;omega) (by rw [bK,bu]),fun b eb=>?_⟩
     simp [Value.ownBlock] at eb;subst eb
     exact ⟨by simp [a5.gE],.nil _ _ _,fun off _=>h.n2 off⟩
   ·cases he
  ·cases he
 ·cases aD
theorem yB {t ty e:TypeId} {i:TypeInfo} {z:Value} (hu:P.underlying t=some (.slice e)) (av:P.info? e=some i) (bx:i.zero=some z) (ry:z.cells.size=i.size)
  {v:Value} {n:Nat} {xs:List Value} (dx:w.ownsRow 0 e i.size v n xs) {ad:Addr} {m c:Nat} {news:List Value} (aN:news.length=m*i.size)
  (k4:∀j u,news[j]?=some u→w.cell? (ad.add j)=some u) (R:∀u∈news,u.oneCell'=true) (hm:0<m) (vH:n+m≤M) (ah:i.bytes≤128) :
  ∃bP w',(Builtin.append_ #[t,t] ty #[v,.slice (some ad) m c]).run P w=.ok bP w'∧w'.ownsRow 0 e i.size bP (n+m) (xs++news)∧w.heap.size≤w'.heap.size ∧
   ((bP.ownBlock=v.ownBlock∧v.ownBlock≠none∧∀k,some k≠v.ownBlock→w'.heap[k]?=w.heap[k]?)∨(bP.ownBlock=some w.heap.size∧w.heap.size<w'.heap.size∧∀k,k<w.heap.size→w'.heap[k]?=w.heap[k]?))∧((w'.os,w'.tape)=(w.os,w.tape)∧w'.output=w.output):=by
 unfold M at vH
 have rz:(n+m)*i.bytes≤140737488355328:=by
  calc (n+m)*i.bytes≤1099511627776*128:=Nat.mul_le_mul (by omega) ah
   _=140737488355328:=by decide
 have vI:n+m≤maxLen:=by unfold maxLen;omega
 have hlen:(xs++news).length=(n+m)*i.size:=by rw [List.length_append,dx.1,aN,Nat.add_mul]
 have grown:∀(kz:Nat),kz<n+m →
   (w.drew.alloc (.cells (xs.toArray++news.toArray++Builtin.zeroCells z.cells (grownCap w (n+m) kz e - (n+m))) e)).ownsRow 0 e i.size
    (.slice (some ⟨w.heap.size,0,none⟩) (n+m) (grownCap w (n+m) kz e)) (n+m) (xs++news):=by
  intro kz aE
  have qd:=grownCap_ge w (n+m) kz e
  have n3:grownCap w (n+m) kz e≤maxLen:=grownCap_le_maxLen w (n+m) kz e vI
  refine ⟨hlen,.inr ⟨w.heap.size,_,_,rfl,Nat.zero_le _,heap_alloc_new w.drew _,qd,n3,?_,?_⟩⟩
  ·simp only [Array.size_append,List.size_toArray,size_zeroCells,ry,dx.1,aN,←Nat.add_mul]
   congr 1;omega
  ·simp only [Array.toList_append,List.append_assoc]
   rw [←List.append_assoc,←hlen]
   exact List.take_left
 rcases dx.2 with ⟨rfl,rfl⟩ | ⟨g,cap,cur,rfl,L7,aK,tc,n3,gD,qe⟩
 ·have ai:xs=[]:=List.eq_nil_of_length_eq_zero (by simpa using dx.1)
  subst ai
  have aA:=run_append_nil (P:=P) w t ty e i z hu av bx ad m c news aN k4 hm (by omega) (by simp only [Nat.zero_add] at rz;omega)
  have o9:=grown 0 (by omega)
  simp only [Nat.zero_add,List.nil_append,Array.empty_append] at o9 ⊢
  exact ⟨_,_,aA,o9,by rw [jE];show w.heap.size≤w.heap.size+1;omega,.inr ⟨rfl,by rw [jE];show w.heap.size<w.heap.size+1;omega,fun k ab=>heap_alloc_old w.drew _ (h:=ab)⟩,rfl,rfl⟩
 ·by_cases rA:n+m≤cap
  ·have qf:n*i.size+news.length≤cur.size:=by rw [aN,gD,←Nat.add_mul];exact Nat.mul_le_mul_right _ rA
   have aA:=run_append_room (P:=P) w t ty e i hu av g n cap cur aK ad m c news aN k4 R rA qf
   refine ⟨_,_,aA,⟨hlen,.inr ⟨g,cap,_,rfl,Nat.zero_le _,setRow_heap w g cur _ e _ aK,rA,n3,?_,?_⟩⟩,by simp,.inl ⟨rfl,by simp [Value.ownBlock],fun k ab=>setRow_other w g k _ (fun e=>ab (by simp [Value.ownBlock,e]))⟩,rfl,rfl⟩
   ·simp only [List.size_toArray,List.length_append,List.length_take,List.length_drop,Array.length_toList]
    omega
   ·rw [qe,←hlen]
    exact List.take_left
  ·have holds:∀j u,xs[j]?=some u→w.cell? ((⟨g,0,none⟩:Addr).add j)=some u:=dx.cells (g:=g) rfl
   have aA:=run_append_grow (P:=P) w t ty e i z hu av bx ⟨g,0,none⟩ n cap xs dx.1 holds ad m c news aN k4 (by omega) (by omega) (growslice_fits (by omega) rz)
   exact ⟨_,_,aA,grown cap (by omega),by rw [jE];show w.heap.size≤w.heap.size+1;omega,.inr ⟨rfl,by rw [jE];show w.heap.size<w.heap.size+1;omega,fun k ab=>heap_alloc_old w.drew _ (h:=ab)⟩,rfl,rfl⟩
theorem L8 {t ty e:TypeId} {i:TypeInfo} (hu:P.underlying t=some (.slice e)) (av:P.info? e=some i) {v:Value} {n:Nat} {xs:List Value} (dx:w.ownsRow 0 e i.size v n xs) (base:Option Addr) (c:Nat) :
  (Builtin.append_ #[t,t] ty #[v,.slice base 0 c]).run P w=.ok v w:=by
 have ah:∀(s:Option Addr) (k cap:Nat),k≤cap→(Builtin.append_ #[t,t] ty #[.slice s k cap,.slice base 0 c]).run P w=.ok (.slice s k cap) w:=by
  intro s k cap ab
  cases base<;>cases s<;>simp [Builtin.append_,run_underlying hu,Go.sizeOf,typeInfo,av,Builtin.lenOf,ab,Builtin.firstCells,loadCells,loadCellsFrom,storeCells]
 rcases dx.2 with ⟨rfl,rfl⟩ | ⟨g,cap,cur,rfl,L7,aK,tc,n3,gD,qe⟩
 ·exact ah none 0 0 (by omega)
 ·exact ah _ n cap tc
theorem dt.iq {γ:dp}:∀{cs:List AV} {b off:Nat},dt γ b off cs→∃us:List Value,us.length=cs.length∧e3 γ cs us∧(∀v∈us,v.oneCell'=true)∧∀j u,us[j]?=some u→γ b (off+j)=some u
 | [],_,_,_=>⟨[],rfl,.nil,by simp,by simp⟩
 | c::cs,b,off,.cons _ _ _ _ v R aa al aY=>by
  obtain ⟨us,an,ar,aO,bD⟩:=dt.iq aY
  refine ⟨v::us,by simp [an],.cons _ _ _ _ aa al ar,by simpa [aa] using aO,fun j u hu=>?_⟩
  cases j with
  | zero=>simp at hu;subst hu;exact R
  | succ j=>have:=bD j u (by simpa using hu);rw [←this];congr 1;omega
theorem dd.iq {γ:dp} {sz:Nat}:∀{xs:List AV} {b off:Nat},dd γ b off sz xs→∃rows:List (List Value),xs.length=rows.length ∧
  (∀(i:Nat) x r,xs[i]?=some x→rows[i]?=some r→x.cells.length=sz∧e3 γ x.cells r∧r.length=sz)∧(∀r∈rows,∀v∈r,v.oneCell'=true) ∧
  rows.flatten.length=xs.length*sz∧∀j u,rows.flatten[j]?=some u→γ b (off+j)=some u
 | [],_,_,_=>⟨[],rfl,by simp,by simp,by simp,by simp⟩
 | x::xs,b,off,.cons _ _ _ _ _ R aa al=>by
  obtain ⟨us,aG,aJ,bo,cd⟩:=aa.iq
  obtain ⟨rows,an,ar,aO,bD,ew⟩:=dd.iq al
  refine ⟨us::rows,by simp [an],fun i y r aT aA=>?_,fun r aA v ax=>?_,by simp [bD,aG,R,Nat.add_mul,Nat.add_comm],fun j u hu=>?_⟩
  ·cases i with
   | zero=>simp at aT aA;subst aT aA;exact ⟨R,aJ,by omega⟩
   | succ i=>exact ar i y r (by simpa using aT) (by simpa using aA)
  ·rcases List.mem_cons.1 aA with rfl | aA
   ·exact bo v ax
   ·exact aO r aA v ax
  ·rw [List.flatten_cons] at hu
   by_cases a6:j<us.length
   ·rw [List.getElem?_append_left a6] at hu;exact cd j u hu
   ·rw [List.getElem?_append_right (by omega)] at hu
    have:=ew _ u hu
    rw [←this];congr 1;omega
theorem e3.mono {γ dq:dp} (h:p4 γ dq):∀{cs:List AV} {ws:List Value},e3 γ cs ws→e3 dq cs ws
 | [],_,.nil=>.nil
 | _::_,_,.cons _ _ _ _ R aa al=>.cons _ _ _ _ R (aa.mono h) (e3.mono h al)
theorem dd.append {γ:dp} {b sz:Nat}:∀{xs ys:List AV} {off:Nat},dd γ b off sz xs→dd γ b (off+xs.length*sz) sz ys→dd γ b off sz (xs++ys)
 | [],ys,off,_,h=>by simpa using h
 | x::xs,ys,off,.cons _ _ _ _ _ R aa al,h=>.cons _ _ _ _ _ R aa (dd.append al (by
   have:off+(x::xs).length*sz=off+sz+xs.length*sz:=by simp [Nat.add_mul];omega
   rwa [this] at h))
end
end AM
/-! The simulation of appends. -/
namespace AM
open Go
section
variable {P:Program} {gl:aR} {N:Nat} {g g':a5} {s s':ae} {a:Act} {w w':World} {o:Oper}
def a5.app (g:a5) (b:Nat) (cells:List Value) (ow:dh):a5 :=
 { g with γ:=fun k off=>if k=b then cells[off]? else g.γ k off,bd:=fun k=>if k=b then ow else g.bd k }
theorem dX.cells (h:Rel P gl N g s a w) {ow:dh} {e sz:Nat} {xs:List AV} {v:Value} (aE:dX P g w ow (.list (some e) sz xs) v) :
  ∃i z vs,P.info? e=some i∧i.size=sz∧0<sz∧i.zero=some z∧z.cells.size=sz∧i.bytes≤128∧w.ownsRow 0 e sz v xs.length vs ∧
   (∀b,v.ownBlock=some b→g.bd b=ow∧∀off,g.γ b off=vs[off]?) ∧
   (∀dq bE,(p4 g.γ dq)→(∀j u,vs[j]?=some u→dq bE j=some u)→dd dq bE 0 sz xs):=by
 obtain ⟨i,z,vs,R,aa,al,aY,bn,cw,oT,dr,hL⟩:=aE e sz xs rfl
 refine ⟨i,z,vs,R,aa,al,aY,bn,cw,dr,fun b ah=>?_,fun dq bE hle Cp=>?_⟩
 ·obtain ⟨aG,aJ,bo⟩:=hL b ah
  refine ⟨aG,fun off=>?_⟩
  obtain ⟨rows,an,ar,aO,bD,ew⟩:=aJ.iq
  by_cases bz:off<xs.length*sz
  ·have aA:rows.flatten[off]?=some (rows.flatten[off]'(by omega)):=List.getElem?_eq_getElem (by omega)
   have fI:=ew off _ aA
   rw [Nat.zero_add] at fI
   have g3:=h.dY _ _ _ fI
   have fQ:vs[off]?=some (vs[off]'(by rw [dr.1];exact bz)):=List.getElem?_eq_getElem _
   have:=dr.cells ah off _ fQ
   rw [iX,Nat.zero_add,g3] at this
   rw [fI,fQ];exact this
  ·rw [bo off (by omega),List.getElem?_eq_none (by rw [dr.1];omega)]
 ·cases ah:v.ownBlock with
  | none =>
   rcases dr.2 with ⟨_,a0⟩ | ⟨k,cap,cur,rfl,_⟩
   ·rw [List.eq_nil_of_length_eq_zero a0];exact .nil _ _ _
   ·simp [Value.ownBlock] at ah
  | some b =>
   obtain ⟨aG,aJ,bo⟩:=hL b ah
   obtain ⟨rows,an,ar,aO,bD,ew⟩:=aJ.iq
   refine dd.vB an (fun k x r ai aA=>?_) fun j u hu=>?_
   ·obtain ⟨bK,cg,cS⟩:=ar k x r ai aA;exact ⟨bK,cg.mono hle,cS⟩
   ·have fI:=ew j u hu
    rw [Nat.zero_add] at fI ⊢
    have g3:=h.dY _ _ _ fI
    have a6:j<vs.length:=by rw [dr.1,←bD];exact (List.getElem?_eq_some_iff.1 hu).1
    have fQ:vs[j]?=some vs[j]:=List.getElem?_eq_getElem a6
    have:=dr.cells ah j _ fQ
    rw [iX,Nat.zero_add,g3] at this
    exact Cp j u (by rw [fQ];exact this.symm)
theorem yC (s:ae) (x sz:Nat) (xs:List AV):hX { s with env:=s.env.ins x (.v (.list none sz xs)) } (.var x) :=
 ⟨fun t z aF bx=>by simp at aF;subst aF;simp only [Env.fm] at bx;simp at bx;subst bx;exact cc.none _ _,by simp,by simp,by simp,by simp,by simp⟩
def td (P:Program) (N:Nat) (o:Oper) (d u:Nat) (x:aq) (e sz:Nat):Bool:=b2 N o d &&
 (match m3 o.op with | some (.append,[.tmp gF,a9],[t,ht])=>gF==u&&t==ht&&cA a9 x&&rp P t e sz | _=>false)
theorem aU.yD {y:AV} {sz:Nat} {xs:List AV} {v:Value} (h:aU g y v) (aN:y.fy=some (sz,xs)) :
  ∃base cap,v=.slice base xs.length cap∧(xs.length≤M∧xs.length≤cap)∧(xs=[]∨∃b off,base=some ⟨b,off,none⟩∧dd g.γ b off sz xs):=by
 unfold AV.fy at aN
 split at aN
 ·simp at aN;obtain ⟨rfl,rfl⟩:=aN;exact h.p7
 ·simp at aN;obtain ⟨rfl,rfl⟩:=aN
  exact ⟨none,0,h.m5,by simp,.inl rfl⟩
 ·simp at aN;obtain ⟨rfl,rfl⟩:=aN
  obtain ⟨base,cap,ax⟩:=h.BQ
  exact ⟨some base,cap,ax,by simp,.inl rfl⟩
 ·cases aN
theorem Cq {d u e:Nat} {xs ys:List AV} {v bP:Value} {i:TypeInfo} {z:Value} {vs:List Value} {rows:List (List Value)} (h:Rel P gl N g s a w) (jB:hX s (.var u))
  (bf:P.info? e=some i) (b5:0<i.size) (cy:i.zero=some z) (eW:z.cells.size=i.size) (eF:i.bytes≤128) (lJ:w.ownsRow 0 e i.size v xs.length vs)
  (pa:∀b,v.ownBlock=some b→g.bd b=.var u∧∀off,g.γ b off=vs[off]?) (qg:∀dq bE,(p4 g.γ dq)→(∀j y,vs[j]?=some y→dq bE j=some y)→dd dq bE 0 i.size xs)
  (bK:ys.length=rows.length) (cg:∀(k:Nat) x r,ys[k]?=some x→rows[k]?=some r→x.cells.length=i.size∧e3 g.γ x.cells r∧r.length=i.size)
  (c7:xs.length+ys.length≤M) (cb:w'.ownsRow 0 e i.size bP (xs.length+ys.length) (vs++rows.flatten)) (ds:w.heap.size≤w'.heap.size) (c3:(w'.os,w'.tape)=(w.os,w.tape)∧w'.output=w.output)
  (dz:(bP.ownBlock=v.ownBlock∧v.ownBlock≠none∧∀k,some k≠v.ownBlock→w'.heap[k]?=w.heap[k]?)∨(bP.ownBlock=some w.heap.size∧w.heap.size<w'.heap.size∧∀k,k<w.heap.size→w'.heap[k]?=w.heap[k]?))
  (dZ:o.dst=some d∧d<N) (aI:s.put d (.list (some e) i.size (xs++ys))=some s') (bM:(execOp a.eval o).run P w=.ok (.value bP) w'):cJ P gl N o g a w s':=by
 have hZ:∃nb,bP.ownBlock=some nb:=by
  rcases dz with ⟨ez,jF,_⟩ | ⟨ez,_⟩
  ·cases ax:v.ownBlock with
   | none=>exact absurd ax jF
   | some b=>exact ⟨b,by rw [ez,ax]⟩
  ·exact ⟨_,ez⟩
 obtain ⟨nb,hZ⟩:=hZ
 -- the ghost grows
 have hold:∀bE lI y,g.γ bE lI=some y→bE=nb→v.ownBlock=some nb:=by
  intro bE lI y iW e
  subst e
  rcases dz with ⟨ez,_⟩ | ⟨ez,_⟩
  ·rw [←ez,hZ]
  ·rw [ez] at hZ;simp at hZ;subst hZ
   rw [h.n2] at iW;cases iW
 have hle:GhLe g (g.app nb (vs++rows.flatten) (.var d)):=⟨fun bE lI y iW=>by
  by_cases e:bE=nb
  ·have ax:=hold _ _ _ iW e
   subst e
   simp only [a5.app,if_true]
   rw [(pa _ ax).2] at iW
   rw [List.getElem?_append_left (List.getElem?_eq_some_iff.1 iW).1];exact iW
  ·simp [a5.app,e,iW],fun _ _ bc=>bc⟩
 have jb:g.bd nb=.none∨g.bd nb=.var u:=by
  rcases dz with ⟨ez,_⟩ | ⟨ez,_⟩
  ·right;exact (pa nb (by rw [←ez,hZ])).1
  ·left;rw [ez] at hZ;simp at hZ;subst hZ;exact h.s7
 have te:∀k,k≠nb→k<w.heap.size→w'.heap[k]?=w.heap[k]?:=by
  intro k ab bz
  rcases dz with ⟨ez,_,jF⟩ | ⟨ez,_,jF⟩
  ·exact jF k (fun e=>ab (by rw [←ez,hZ] at e;simpa using e))
  ·exact jF k bz
 have L9:∀k,g.bd k≠.none→g.bd k≠.var u→(g.app nb (vs++rows.flatten) (.var d)).bd k=g.bd k∧w'.heap[k]?=w.heap[k]?∧∀o,(g.app nb (vs++rows.flatten) (.var d)).γ k o=g.γ k o:=by
  intro k fh ga
  have ck:k≠nb:=fun e=>by subst e;rcases jb with bc | bc<;>simp [bc] at fh ga
  exact ⟨by simp [a5.app,ck],te k ck (h.own k fh),fun _=>by simp [a5.app,ck]⟩
 have vD:=cb.cells hZ
 have YW:∀bE lI y,(g.app nb (vs++rows.flatten) (.var d)).γ bE lI=some y→w'.cell? ⟨bE,lI,none⟩=some y:=by
  intro bE lI y iW
  by_cases e:bE=nb
  ·subst e
   simp only [a5.app,if_true] at iW
   have:=vD lI y iW
   rwa [iX,Nat.zero_add] at this
  ·simp [a5.app,e] at iW
   have af:=h.dY _ _ _ iW
   unfold World.cell? at af ⊢
   rw [te bE e (s6 (h.dY _ _ _ iW))];exact af
 have cC:=h.step (g':=g.app nb (vs++rows.flatten) (.var d)) (w':=w') (.var u) jB hle (fun k ab=>L9 k ab.1 ab.2) YW (fun k ab=>by
  by_cases e:k=nb
  ·subst e
   have:=cb.lt k hZ;exact this.2
  ·simp [a5.app,e] at ab;have:=h.own k ab;omega) h.er
 have YX:dj g w (g.app nb (vs++rows.flatten) (.var d)) w':=⟨hle,fun k ab=>by
  obtain ⟨et,ey,hi⟩:=L9 k (by rw [ab];simp) (by rw [ab];simp)
  exact ⟨et.trans ab,ey,hi⟩,ds,c3.1,c3.2⟩
 -- the new list
 have YY:dd (g.app nb (vs++rows.flatten) (.var d)).γ nb 0 i.size xs:=qg _ nb hle.γ fun j u a6=>by
  simp only [a5.app,if_true]
  rw [List.getElem?_append_left (List.getElem?_eq_some_iff.1 a6).1];exact a6
 have YZ:dd (g.app nb (vs++rows.flatten) (.var d)).γ nb (0+xs.length*i.size) i.size ys:=by
  refine dd.vB bK (fun k x r ai aA=>?_) fun j u a6=>?_
  ·obtain ⟨et,ey,hi⟩:=cg k x r ai aA;exact ⟨et,ey.mono hle.γ,hi⟩
  ·simp only [a5.app,if_true]
   rw [Nat.zero_add,List.getElem?_append_right (by rw [lJ.1];omega),lJ.1]
   rw [←a6];congr 1;omega
 have lK:=dd.append YY YZ
 have cF:∃h0,bP=.slice (some ⟨nb,0,none⟩) (xs.length+ys.length) h0∧xs.length+ys.length≤h0:=by
  rcases cb.2 with ⟨rfl,_⟩ | ⟨k,h0,cur,rfl,_,_,af,_⟩
  ·simp [Value.ownBlock] at hZ
  ·simp [Value.ownBlock] at hZ;subst hZ;exact ⟨h0,rfl,af⟩
 obtain ⟨h0,rfl,Y0⟩:=cF
 refine ⟨.slice (some ⟨nb,0,none⟩) (xs.length+ys.length) h0,w',_,.inl bM,YX,?_⟩
 rw [dZ.1]
 refine cC.put aI dZ.2 (.own _ _ _ _ (.s5 (by simp) (by simpa using c7) (by simpa using Y0) lK)) ?_
 intro bH b8 k5 s4
 simp at s4;obtain ⟨rfl,rfl,rfl⟩:=s4
 refine ⟨i,z,vs++rows.flatten,bf,rfl,b5,cy,eW,eF,by simpa using c7,by simpa using cb,fun bE eb=>?_⟩
 rw [hZ] at eb;simp at eb;subst eb
 refine ⟨by simp [a5.app],lK,fun off rh=>?_⟩
 simp only [a5.app,if_true]
 rw [List.getElem?_eq_none]
 rw [cb.1];simpa using rh
theorem Y1 {d u:Nat} {x:aq} {e sz:Nat} (h:Rel P gl N g s a w) (af:td P N o d u x e sz=true) (he:au gl s (.app d u x e sz)=some s'):cJ P gl N o g a w s':=by
 simp only [td,Bool.and_eq_true] at af
 obtain ⟨aw,aD⟩:=af
 split at aD
 ·rename_i gF a9 t ht aE
  obtain ⟨nZ,bM⟩:=m4 (o:=o) aE rfl a.eval
  simp only [Bool.and_eq_true,beq_iff_eq] at aD
  obtain ⟨⟨⟨rfl,rfl⟩,ai⟩,ab⟩:=aD
  obtain ⟨hu,ab⟩:=rq ab
  have dZ:=aw
  simp only [b2,Bool.and_eq_true,beq_iff_eq,decide_eq_true_eq] at dZ
  simp only [au] at he
  split at he
  ·rename_i bH b8 xs gA ys aS aT
   obtain ⟨y,aT,m8⟩:=bind_some aT
   split at he
   ·rename_i ah
    obtain ⟨rfl,rfl,rfl,Y2,c7⟩:=ah
    obtain ⟨s1,aB,aI⟩:=bind_some he
    obtain ⟨al,aY⟩:=h.strip aS
    rw [al] at aB;simp at aB;subst aB
    obtain ⟨v,aG,aJ,bo⟩:=h.env _ _ aS
    obtain ⟨i,z,vs,bf,bu,b5,cy,eW,eF,lJ,pa,qg⟩:=dX.cells h bo
    obtain ⟨base,cap,an,ar,aO⟩:=aU.yD (ca h ai aT) m8
    have cD:a.eval (.tmp gF)=v:=by simp [Act.eval,aG]
    subst bu
    by_cases fe:ys=[]
    ·subst fe
     have aA:=L8 (P:=P) (w:=w) (ty:=o.type) hu bf lJ base cap
     simp only [List.append_nil] at aI
     obtain ⟨g',bK,cg⟩:=aY.sW (yC _ _ _ _) (by simp) (by simp) dZ.2 aI aJ bo ⟨_,_,_,rfl⟩
     refine ⟨v,w,g',.inl ?_,bK,by rw [dZ.1];exact cg⟩
     rw [bM]
     simp only [builtin,List.map_cons,List.map_nil,cD,an,List.length_nil,Sem.run_bind,aA,Result.andThen_ok,Sem.run_pure]
    ·rcases aO with aO | ⟨b,off,rfl,bD⟩
     ·exact absurd aO fe
     obtain ⟨rows,bK,cg,cS,eC,eK⟩:=bD.iq
     have k4:∀j u,rows.flatten[j]?=some u→w.cell? ((⟨b,off,none⟩:Addr).add j)=some u:=fun j u a6=>by rw [iX];exact h.dY _ _ _ (eK j u a6)
     have iF:∀u∈rows.flatten,u.oneCell'=true:=fun u g4=>by
      obtain ⟨r,aA,Cr⟩:=List.mem_flatten.1 g4
      exact cS r aA u Cr
     have jc:0<ys.length:=by cases ys with | nil=>exact absurd rfl fe | cons=>simp
     obtain ⟨bP,w',bN,cb,ds,dz,c3⟩:=yB (P:=P) (w:=w) (ty:=o.type) (c:=cap) hu bf cy eW lJ eC k4 iF jc c7 eF
     refine Cq (rows:=rows) aY (yC _ _ _ _) bf b5 cy eW eF lJ pa qg bK cg c7 cb ds c3 dz dZ aI ?_
     rw [bM]
     simp only [builtin,List.map_cons,List.map_nil,cD,an,Sem.run_bind,bN,Result.andThen_ok,Sem.run_pure]
   ·cases he
  ·rename_i b8 gA ys aS aT
   obtain ⟨y,aT,m8⟩:=bind_some aT
   split at he
   ·rename_i ah
    obtain ⟨rfl,rfl,Y2,c7⟩:=ah
    obtain ⟨v,aG,aJ,_⟩:=h.env _ _ aS
    have aJ:=aJ.m5
    subst aJ
    have bo:=vl ab g w (.var gF)
    have jB:hX s (.var gF):=⟨fun t z aF bx=>by simp at aF;subst aF;rw [aS] at bx;simp at bx;subst bx;exact fun _ _ _ h=>by simp at h,by simp,by simp,by simp,by simp,by simp⟩
    obtain ⟨i,z,vs,bf,bu,b5,cy,eW,eF,lJ,pa,qg⟩:=dX.cells h bo
    obtain ⟨base,cap,an,ar,aO⟩:=aU.yD (ca h ai aT) m8
    have cD:a.eval (.tmp gF)=.slice none 0 0:=by simp [Act.eval,aG]
    subst bu
    by_cases fe:ys=[]
    ·subst fe
     have aA:=L8 (P:=P) (w:=w) (ty:=o.type) hu bf lJ base cap
     refine ⟨.slice none 0 0,w,g,.inl ?_,.refl _ _,by rw [dZ.1];exact h.put he dZ.2 (.own _ _ _ _ (.fP _ _ _ (by simp))) (vl ab g w _)⟩
     rw [bM]
     simp only [builtin,List.map_cons,List.map_nil,cD,an,List.length_nil,Sem.run_bind,aA,Result.andThen_ok,Sem.run_pure]
    ·rcases aO with aO | ⟨b,off,rfl,bD⟩
     ·exact absurd aO fe
     obtain ⟨rows,bK,cg,cS,eC,eK⟩:=bD.iq
     have k4:∀j u,rows.flatten[j]?=some u→w.cell? ((⟨b,off,none⟩:Addr).add j)=some u:=fun j u a6=>by rw [iX];exact h.dY _ _ _ (eK j u a6)
     have iF:∀u∈rows.flatten,u.oneCell'=true:=fun u g4=>by
      obtain ⟨r,aA,Cr⟩:=List.mem_flatten.1 g4
      exact cS r aA u Cr
     have jc:0<ys.length:=by cases ys with | nil=>exact absurd rfl fe | cons=>simp
     obtain ⟨bP,w',bN,cb,ds,dz,c3⟩:=yB (P:=P) (w:=w) (ty:=o.type) (c:=cap) hu bf cy eW lJ eC k4 iF jc (by simpa using c7) eF
     refine Cq (rows:=rows) (xs:=[]) h jB bf b5 cy eW eF lJ pa qg bK cg (by simpa using c7) cb ds c3 dz dZ he ?_
     rw [bM]
     simp only [builtin,List.map_cons,List.map_nil,cD,an,Sem.run_bind,bN,Result.andThen_ok,Sem.run_pure]
   ·cases he
  ·cases he
 ·cases aD
end
end AM
/-! The simulation of immutable boxes, of arrays' addresses, of comparisons with nil. -/
namespace AM
open Go
section
variable {P:Program} {gl:aR} {N:Nat} {g g':a5} {s s':ae} {a:Act} {w w':World} {o:Oper}
theorem Y3 {c:AV} (h:c.dw=true):c.one=true:=by
 cases c<;>first | rfl | simp [AV.dw] at h
theorem Y4 {d:Nat} {x:aq} (h:Rel P gl N g s a w) (af:qb N o d x=true) (he:au gl s (.cz d x)=some s'):cJ P gl N o g a w s':=by
 simp only [qb,Bool.and_eq_true] at af
 obtain ⟨aw,aD⟩:=af
 split at aD
 ·rename_i e a9 aE
  obtain ⟨u,R,aa⟩:=bind_some he
  split at aa
  ·rename_i ao
   simp only [b2,Bool.and_eq_true,beq_iff_eq,decide_eq_true_eq] at aw
   have iF:u.cells.all AV.one=true:=by
    rw [List.all_eq_true] at ao ⊢
    exact fun c af=>Y3 (ao c af)
   obtain ⟨aG,aJ⟩:=(ca h aD R).cells iF
   have bo:=aG.Ce ao aJ
   obtain ⟨an,ar⟩:=h.Cg (a.eval a9).cells e
   have hle:=an.toGhLe
   have lK:dt (g.im w.heap.size (a.eval a9).cells).γ w.heap.size 0 u.cells :=
    dt.yv (bo.mono hle.γ) fun i v ax=>by simpa [a5.im] using ax
   refine ⟨ptrTo w.heap.size 0,w.alloc (.cells (a.eval a9).cells e),_,.inl ?_,an,?_⟩
   ·simp only [execOp,aE,Sem.run_bind,yr,Result.andThen_ok,Sem.run_pure]
   ·rw [aw.1]
    exact ar.put aa aw.2 (.pure _ _ (.cU _ _ _ lK)) (vu _).fo
  ·cases aa
 ·cases aD
theorem Y5 (d:Nat) {t e:TypeId} (hu:P.underlying t=some (.slice e)) (b:Option Addr) (n c:Nat):(Op.equalIn (d+1) t (.slice b n c) (.slice none 0 0)).run P w=.ok b.isNone w:=by
 cases b<;>simp [Op.equalIn,run_underlying hu]
theorem Ma {t e:TypeId} (hu:P.underlying t=some (.slice e)) (b:Option Addr) (n c:Nat):(Op.equal t (.slice b n c) (.slice none 0 0)).run P w=.ok b.isNone w:=Y5 9999 hu b n c
def Mb:Value→Bool
 | .slice none 0 0=>true
 | _=>false
def Cs (P:Program) (N:Nat) (o:Oper) (d:Nat) (ne:Bool) (x:aq):Bool:=b2 N o d &&
 (match o.op with | .binOp op t a9 (.const c) _=>decide (op=if ne then .neq else .eql)&&cA a9 x&&Mb c&&(match P.underlying t with | some (.slice _)=>true | _=>false) | _=>false)
theorem Y6 {d:Nat} {ne:Bool} {x:aq} (h:Rel P gl N g s a w) (af:Cs P N o d ne x=true) (he:au gl s (.jU d ne x)=some s'):cJ P gl N o g a w s':=by
 simp only [Cs,Bool.and_eq_true] at af
 obtain ⟨aw,aD⟩:=af
 split at aD
 ·rename_i op t a9 c ty aE
  simp only [Bool.and_eq_true,decide_eq_true_eq] at aD
  obtain ⟨⟨⟨aD,ai⟩,a1⟩,ab⟩:=aD
  split at ab
  ·rename_i e hu
   have af:c=.slice none 0 0:=by unfold Mb at a1;split at a1<;>first | rfl | cases a1
   subst af
   have Mc:a.eval (.const (.slice none 0 0))=.slice none 0 0:=rfl
   have bM:∀b n tf,a.eval a9=.slice b n tf→(execOp a.eval o).run P w=.ok (.value (.bool (if ne then !b.isNone else b.isNone))) w:=by
    intro b n tf ax
    cases ne with
    | false =>
     simp only [Bool.false_eq_true,if_false] at aD ⊢;subst aD
     simp only [execOp,aE,ax,Mc,Sem.run_bind]
     have:=vp (P:=P) (w:=w) (xo:=a9) (yo:=.const (.slice none 0 0)) (x:=.slice b n tf) (y:=.slice none 0 0) (t:=t) (by simp [eqGuard]) (by simp [binOp]) (Ma hu b n tf)
     simp only [Sem.run_bind] at this
     rw [this];rfl
    | true =>
     simp only [if_true] at aD ⊢;subst aD
     simp only [execOp,aE,ax,Mc,Sem.run_bind]
     have:=vq (P:=P) (w:=w) (xo:=a9) (yo:=.const (.slice none 0 0)) (x:=.slice b n tf) (y:=.slice none 0 0) (t:=t) (by simp [eqGuard]) (by simp [binOp]) (Ma hu b n tf)
     simp only [Sem.run_bind] at this
     rw [this];rfl
   simp only [au] at he
   split at he
   ·rename_i sz ax
    have ax:=(ca h ai ax).m5
    refine .value h aw he (bM _ _ _ ax) ?_ (ku _)
    cases ne<;>exact .pure _ _ (.bool _)
   ·rename_i sz ax
    obtain ⟨base,cap,ax⟩:=(ca h ai ax).BQ
    refine .value h aw he (bM _ _ _ ax) ?_ (ku _)
    cases ne<;>exact .pure _ _ (.bool _)
   ·rename_i own sz y ys ax
    obtain ⟨base,cap,ax,_,ah⟩:=(ca h ai ax).p7
    rcases ah with ah | ⟨b,off,rfl,_⟩
    ·cases ah
    refine .value h aw he (bM _ _ _ ax) ?_ (ku _)
    cases ne<;>exact .pure _ _ (.bool _)
   ·cases he
  ·cases ab
 ·cases aD
def Ct (P:Program) (o:Oper) (bB:Nat):Bool:=match o.op with
 | .buildSlice t _ _=>(match P.underlying t with | some (.slice e)=>e==bB | _=>false)
 | _=>false
def vJ (P:Program) (N:Nat) (o:Oper) (d bB sz:Nat) (xs:List aq):Bool:=s9 P N o d sz xs&&Ct P o bB
theorem Y7 {d bB sz:Nat} {xs:List aq} (h:Rel P gl N g s a w) (af:vJ P N o d bB sz xs=true) (he:au gl s (.mi d bB sz xs)=some s'):cJ P gl N o g a w s':=by
 simp only [vJ,s9,Bool.and_eq_true] at af
 obtain ⟨⟨aw,aD⟩,m9⟩:=af
 split at aD
 ·rename_i t n bT aE
  simp only [Bool.and_eq_true,beq_iff_eq] at aD
  obtain ⟨⟨⟨rfl,rr⟩,gR⟩,ab⟩:=aD
  unfold yx at ab
  split at ab
  ·rename_i e hu
   simp only [Bool.and_eq_true,decide_eq_true_eq] at ab
   obtain ⟨fh,ga⟩:=ab
   obtain ⟨i,z,bf,bu,b5,cy,eW,eF⟩:=ky fh
   obtain ⟨vs,aB,aI⟩:=bind_some he
   split at aI
   ·rename_i ah
    simp only [Bool.and_eq_true,decide_eq_true_eq,List.all_eq_true,beq_iff_eq] at ah
    obtain ⟨gC,fG⟩:=ah
    have fR:=oV h gR aB
    have j4:(bT.map fun (i,x)=>(i,a.eval x))=(((bT.toList.map (·.2)).map a.eval).zipIdx.map fun (v,i)=>(i,v)).toArray:=by
     rw [←Ci rr a.eval];apply Array.ext';simp
    have g5:xs.length=((bT.toList.map (·.2)).map a.eval).length:=by
     simp only [gQ,Bool.and_eq_true,beq_iff_eq] at gR;rw [List.length_map];exact gR.1.symm
    generalize (bT.toList.map (·.2)).map a.eval=us at fR j4 g5
    have hh:=fR.get
    -- the concrete elements
    have vC:∀(k:Nat) x v,vs[k]?=some x→us[k]?=some v→cp g.γ x.aL v∧x.aL.cells.length=sz∧v.cells.size=sz:=by
     intro k x v ai ax
     obtain ⟨hx,ja⟩:=gC x (List.mem_of_getElem? ai)
     obtain ⟨bP,an,ar⟩:=hh.2 k x ai
     rw [ax] at an;simp at an;subst an
     have ao:=ar.aL.Cf hx
     have gG:x.aL.cells.length=sz:=by
      have:x.aL.cells.length=x.cells.length:=by cases x<;>rfl
      rw [this];exact ja
     refine ⟨ao,gG,?_⟩
     have Ck:=ao.cells
     have:∀{cs:List AV} {ws:List Value},e3 g.γ cs ws→ws.length=cs.length:=by
      intro cs ws bc
      induction ws generalizing cs with
      | nil=>cases bc;rfl
      | cons w ws ih=>cases bc with | cons _ _ _ _ _ _ al=>simp [ih al]
     have:=this Ck
     simp at this;omega
    have yz:∀v∈us,v.cells.size=i.size:=by
     intro v ax
     obtain ⟨k,fp,eL⟩:=List.getElem_of_mem ax
     have m6:k<vs.length:=by have:=hh.1;omega
     have:=(vC k vs[k] v (by simp [m6]) (by rw [List.getElem?_eq_getElem fp,eL])).2.2
     omega
    have bM:=yy (P:=P) (w:=w) hu bf cy (by omega) yz (by
     have R:us.length≤1000:=by rw [hh.1];exact fG
     calc _≤1000*1000:=Nat.mul_le_mul R (by omega)
      _≤2 ^ 24:=by decide)
    obtain ⟨an,ar⟩:=h.Cg (us.map (·.cells.toList)).flatten.toArray e
    have nX:(us.map (·.cells.toList)).flatten.length=us.length*sz:=by
     have:∀(l:List Value),(∀v∈l,v.cells.size=sz)→(l.map (·.cells.toList)).flatten.length=l.length*sz:=by
      intro l
      induction l with
      | nil=>simp
      | cons v l ih=>intro aN;simp only [List.map_cons,List.flatten_cons,List.length_append,List.length_cons,ih fun v ax=>aN v (by simp [ax]),Array.length_toList,aN v (by simp),Nat.add_mul];omega
     exact this us fun v ax=>by rw [yz v ax];exact bu
    have hlen:(vs.map AV.aL).length=us.length:=by rw [List.length_map];exact hh.1.symm
    have lK:dd (g.im w.heap.size (us.map (·.cells.toList)).flatten.toArray).γ w.heap.size 0 sz (vs.map AV.aL):=by
     refine dd.vB (rows:=us.map (·.cells.toList)) (by rw [List.length_map,List.length_map];exact hh.1.symm) (fun k x r ai aA=>?_) fun k v ax=>by simpa [a5.im] using ax
     rw [List.getElem?_map] at ai aA
     cases ru:vs[k]? with
     | none=>simp [ru] at ai
     | some a9 =>
      cases rv:us[k]? with
      | none=>simp [rv] at aA
      | some bP =>
       simp [ru] at ai;simp only [rv,Option.map_some,Option.some.injEq] at aA;subst ai aA
       obtain ⟨bK,cg,cS⟩:=vC k a9 bP ru rv
       exact ⟨cg,(bK.mono an.γ).cells,by simpa using cS⟩
    have th:e=bB:=by
     unfold Ct at m9
     rw [aE] at m9
     simp only [hu,beq_iff_eq] at m9
     exact m9
    subst th
    simp only [b2,Bool.and_eq_true,beq_iff_eq,decide_eq_true_eq] at aw
    have jB:hX s .vj:=⟨by simp,by simp,by simp,by simp,by simp,by simp⟩
    have Y8:us.length≤1000:=by rw [hh.1];exact fG
    have Y9:aU (g.im w.heap.size (us.map (·.cells.toList)).flatten.toArray) (.list (some e) sz (vs.map AV.aL)) (.slice (some ⟨w.heap.size,0,none⟩) us.length us.length) :=
     .own _ _ _ _ (.s5 hlen.symm (by simp;unfold M;omega) (by omega) lK)
    have dx:dX P (g.im w.heap.size (us.map (·.cells.toList)).flatten.toArray) (w.alloc (.cells (us.map (·.cells.toList)).flatten.toArray e)) .vj (.list (some e) sz (vs.map AV.aL)) (.slice (some ⟨w.heap.size,0,none⟩) us.length us.length):=by
     intro bH b8 ys aT
     simp at aT;obtain ⟨rfl,rfl,rfl⟩:=aT
     refine ⟨i,z,(us.map (·.cells.toList)).flatten,bf,bu,b5,cy,eW,eF,by simp;unfold M;omega,⟨by rw [nX,hlen],.inr ⟨w.heap.size,us.length,(us.map (·.cells.toList)).flatten.toArray,by rw [hlen],Nat.zero_le _,heap_alloc_new w _,by omega,by unfold maxLen;omega,by simpa using nX,?_⟩⟩,fun b ah=>?_⟩
     ·rw [hlen,←nX];exact List.take_length
     ·simp [Value.ownBlock] at ah;subst ah
      refine ⟨by simp [a5.im],lK,fun off rh=>?_⟩
      simp only [a5.im,if_true,List.getElem?_toArray]
      rw [List.getElem?_eq_none];rw [nX,←hlen];exact rh
    obtain ⟨g',bK,cg⟩:=ar.sW jB (by simp) (by simp) aw.2 aI Y9 dx ⟨_,_,_,rfl⟩
    refine ⟨.slice (some ⟨w.heap.size,0,none⟩) us.length us.length,_,g',.inl ?_,an.trans bK,?_⟩
    ·simp only [execOp,aE,Sem.run_bind]
     rw [j4,g5,bM];rfl
    ·rw [aw.1];exact cg
   ·cases aI
  ·cases ab
 ·cases aD
end
end AM
/-! The simulation of arrays' elements and slices. -/
namespace AM
open Go
section
variable {P:Program} {gl:aR} {N:Nat} {g g':a5} {s s':ae} {a:Act} {w w':World} {o:Oper}
def yE (P:Program) (t n sz:Nat):Bool:=match P.underlying t with
 | some (.array m e)=>m==n&&(match P.info? e with | some f=>f.size==sz | none=>false)
 | _=>false
theorem Md {t n sz:Nat} (h:yE P t n sz=true):∃e f,P.underlying t=some (.array n e)∧P.info? e=some f∧f.size=sz:=by
 unfold yE at h
 split at h
 ·rename_i m e hu
  simp only [Bool.and_eq_true,beq_iff_eq] at h
  obtain ⟨rfl,h⟩:=h
  split at h
  ·rename_i f aP;simp at h;exact ⟨e,f,hu,aP,h⟩
  ·cases h
 ·cases h
theorem Za {t e n:Nat} {f:TypeInfo} (hu:P.underlying t=some (.array n e)) (av:P.info? e=some f) (b off:Nat) (k:IntKind) {j:Int} (a0:0≤j) (R:j<n) :
  (Instr.indexAt t (ptrTo b off) (.int k j)).run P w=.ok (ptrTo b (off+j.toNat*f.size)) w:=by
 simp [Instr.indexAt,asIntOf,run_underlying hu,a0,R,Go.sizeOf,typeInfo,av,iX,ptrTo,Instr.sureAddr]
def Cu (P:Program) (N:Nat) (o:Oper) (d:Nat) (x:aq) (n sz:Nat) (i:aq):Bool:=b2 N o d &&
 (match o.op with | .indexAddr t a9 j2=>cA a9 x&&cA j2 i&&yE P t n sz | _=>false)
theorem Zb {d n sz:Nat} {x i:aq} (h:Rel P gl N g s a w) (af:Cu P N o d x n sz i=true) (he:au gl s (.jR d x n sz i)=some s'):cJ P gl N o g a w s':=by
 simp only [Cu,Bool.and_eq_true] at af
 obtain ⟨aw,aD⟩:=af
 split at aD
 ·rename_i t a9 j2 aE
  simp only [Bool.and_eq_true] at aD
  obtain ⟨⟨ai,av⟩,ab⟩:=aD
  obtain ⟨e,f,hu,aP,rfl⟩:=Md ab
  have bM:∀b bZ k (j:Int),a.eval a9=ptrTo b bZ→a.eval j2=.int k j→0≤j→j<n→(execOp a.eval o).run P w=.ok (.value (ptrTo b (bZ+j.toNat*f.size))) w:=by
   intro b bZ k j aB aI a0 R
   simp only [execOp,aE,Sem.run_bind,aB,aI,Za hu aP b bZ k a0 R,Result.andThen_ok,Sem.run_pure]
  simp only [au] at he
  split at he
  ·rename_i ht bZ k j ao a6
   obtain ⟨b,cs,an,ar,aO,bD⟩:=mm h ai ao
   split at he
   ·rename_i ah
    simp at he;subst he
    exact .addr h aw ah.2.2 an ar (bM _ _ _ _ aO (ca h av a6).hg ah.1 ah.2.1)
   ·cases he
  ·rename_i id bZ k j ao a6
   obtain ⟨b,an,ar⟩:=mm h ai ao
   split at he
   ·rename_i ah
    exact .value h aw he (bM _ _ _ _ ar (ca h av a6).hg ah.1 ah.2) (.ptr _ _ _ an) (o1 _ _)
   ·cases he
  ·rename_i cs k j ao a6
   obtain ⟨b,bZ,an,ar⟩:=mm h ai ao
   split at he
   ·rename_i ah
    exact .value h aw he (bM _ _ _ _ an (ca h av a6).hg ah.1 ah.2.1) (.pure _ _ (.cU _ _ _ (ar.drop _))) (vu _)
   ·cases he
  ·cases he
 ·cases aD
theorem dt.Me {γ:dp} {b off:Nat} {c:AV} {cs:List AV} (h:dt γ b off (c::cs)):c.cells=[c]:=by
 cases h with
 | cons _ _ _ _ v R aa al aY =>
  cases al<;>first | rfl | simp [Value.oneCell'] at aa
theorem Cv {γ:dp} {b sz:Nat} (ea:0<sz):∀(n off:Nat) (cs:List AV),cs.length=n*sz→dt γ b off cs→dd γ b off sz (chunk sz n cs)∧(chunk sz n cs).length=n
 | 0,_,_,_,_=>⟨.nil _ _ _,rfl⟩
 | n+1,off,cs,aN,af=>by
  have lF:(cs.drop sz).length=n*sz:=by rw [List.length_drop,aN,Nat.add_mul];omega
  have qd:sz≤cs.length:=by rw [aN,Nat.add_mul];omega
  obtain ⟨R,aa⟩:=Cv ea n (off+sz) (cs.drop sz) lF (af.drop sz)
  simp only [chunk]
  refine ⟨.cons _ _ _ _ _ ?_ ?_ R,by simp [aa]⟩
  ·split
   ·rename_i e;subst e
    match cs,qd,af with
    | c::cs,_,af=>simp [af.Me]
   ·simp [AV.cells];omega
  ·split
   ·rename_i e;subst e
    match cs,qd,af with
    | c::cs,_,af=>simp only [List.headD_cons,af.Me];exact af.take 1
   ·exact af.take sz
theorem Zc {t e n:Nat} {f:TypeInfo} {b off:Nat} {aX av:Option Value} {i j:Nat} (hu:P.underlying t=some (.array n e)) (aP:P.info? e=some f)
  (ah:(Instr.sliceBounds false n n aX av none).run P w=.ok (i,j,n) w) :
  (Instr.sliceAt t (ptrTo b off) aX av none).run P w=.ok (.slice (some (if n=i then ⟨b,off,none⟩ else (⟨b,off,none⟩:Addr).add (i*f.size))) (j - i) (n - i)) w:=by
 simp only [Instr.sliceAt,Sem.run_bind,run_underlying hu,Result.andThen_ok,Instr.sureAddr,ptrTo,Sem.run_pure,ah,Go.sizeOf,typeInfo,run_program,aP]
def Cw (P:Program) (N:Nat) (o:Oper) (d:Nat) (x:aq) (n sz:Nat) (aX av:Option aq):Bool:=b2 N o d&&decide (0<sz) &&
 (match o.op with | .slice t a9 qa iE none=>cA a9 x&&p9 qa aX&&p9 iE av&&yE P t n sz | _=>false)
theorem Zd {d n sz:Nat} {x:aq} {aX av:Option aq} (h:Rel P gl N g s a w) (af:Cw P N o d x n sz aX av=true) (he:au gl s (.jw d x n sz aX av)=some s'):cJ P gl N o g a w s':=by
 simp only [Cw,Bool.and_eq_true,decide_eq_true_eq] at af
 obtain ⟨⟨aw,ea⟩,aD⟩:=af
 split at aD
 ·rename_i t a9 qa iE aE
  simp only [Bool.and_eq_true] at aD
  obtain ⟨⟨⟨ai,k1⟩,n1⟩,ab⟩:=aD
  obtain ⟨e,f,hu,aP,rfl⟩:=Md ab
  simp only [au] at he
  split at he
  ·rename_i cs ao
   obtain ⟨b,off,an,ar⟩:=mm h ai ao
   split at he
   ·rename_i a1
    split at he
    ·rename_i i j fH lG
     split at he
     ·rename_i ah
      obtain ⟨R,aa,al⟩:=ah
      obtain ⟨aA,hlen⟩:=Cv ea n off cs a1.1 ar
      have lH:=vv (P:=P) (w:=w) (cap:=n) h false k1 n1 fH lG R aa al (Nat.le_refl _)
      refine .value h aw he (v:=.slice (some (if n=i.toNat then ⟨b,off,none⟩ else (⟨b,off,none⟩:Addr).add (i.toNat*f.size))) (j.toNat - i.toNat) (n - i.toNat)) ?_ ?_ (cc.none _ _)
      ·simp only [execOp,aE,Option.map_none,Sem.run_bind,an,Zc hu aP lH,Result.andThen_ok,Sem.run_pure]
      ·have Mf:(((chunk f.size n cs).take j.toNat).drop i.toNat).length=j.toNat - i.toNat:=by simp [hlen];omega
       by_cases gn:j.toNat=i.toNat
       ·exact .pure _ _ (.BZ (by apply List.eq_nil_of_length_eq_zero;omega) (by omega) (by simp))
       ·have ck:¬n=i.toNat:=by omega
        simp only [ck,if_false,iX]
        exact .pure _ _ (.s5 Mf.symm (by rw [Mf];unfold M;omega) (by omega) ((aA.take _).drop _))
     ·cases he
    ·cases he
   ·cases he
  ·cases he
 ·cases aD
end
end AM
/-! The simulation of slices over new heap objects. -/
namespace AM
open Go
section
variable {P:Program} {gl:aR} {N:Nat} {g g':a5} {s s':ae} {a:Act} {w w':World} {o:Oper}
theorem Rel.Cx (h:Rel P gl N g s a w) {cs:List AV} {ws:List Value} {e sz:Nat} (cq:hf P e sz=true) (af:bW g cs ws) (R:∀v∈ws,v.oneCell'=true) (a1:∀c∈cs,cc c) (o4:ws.length≤maxLen*sz) :
  ∃g',dj g w g' (w.alloc (.cells ws.toArray e))∧Rel P gl N g' { s with heap:=s.heap++[aM.buf e cs,.dead] } a (w.alloc (.cells ws.toArray e))∧g'.b4 s.heap.length=some w.heap.size ∧
   g'.b4 (s.heap.length+1)=some ws.length:=by
 obtain ⟨an,ar⟩:=h.alloc (.cells ws.toArray e) (.bt s.heap.length)
 have ah:=gB.new (P:=P) (ow:=.bt s.heap.length) (oc:=.oc s.heap.length) (ty:=e) h.n2 af R a1
 let bQ:a5:={ g.gE w.heap.size (.bt s.heap.length) with b4:=fun id=>if id=s.heap.length then some w.heap.size else if id=s.heap.length+1 then some ws.length else g.b4 id }
 have hle:GhLe (g.gE w.heap.size (.bt s.heap.length)) bQ:=⟨fun _ _ _ h=>h,fun id b bG=>by
  have:=h.er id b bG
  simp [bQ,show id≠s.heap.length by omega,show id≠s.heap.length+1 by omega];exact bG⟩
 have ab:∀K,Kept (g.gE w.heap.size (.bt s.heap.length)) (w.alloc (.cells ws.toArray e)) bQ (w.alloc (.cells ws.toArray e)) K:=fun K b _=>⟨rfl,rfl,fun _=>rfl⟩
 refine ⟨bQ,an.trans ⟨hle,fun b ah=>⟨ah,rfl,fun _=>rfl⟩,Nat.le_refl _,rfl,rfl⟩,?_,by simp [bQ],by simp [bQ]⟩
 refine ⟨ar.sorted,ar.size,ar.defers,fun t e he=>(ar.env t e he).kept hle (ab fun _=>True) trivial trivial (fun _=>trivial),fun id bt bh=>?_,ar.dY,ar.own,ar.e4,fun id b bG=>?_⟩
 ·simp only at bh
  by_cases bz:id<s.heap.length
  ·rw [List.getElem?_append_left bz] at bh
   exact (ar.heap id bt bh).kept hle (ab fun _=>True) (fun _=>trivial) (fun _=>trivial)
  ·rw [List.getElem?_append_right (by omega)] at bh
   by_cases bB:id=s.heap.length
   ·subst bB
    simp at bh;subst bh
    obtain ⟨i,z,bf,bu,b5,cy,eW,eF⟩:=ky cq
    exact ⟨w.heap.size,ws.length,by simp [bQ],by simp [bQ],ah.kept hle (ab fun _=>True) trivial (fun _=>trivial),⟨ws.toArray,heap_alloc_new w _,by simp⟩,i,z,bf,by omega,cy,by omega,eF,by rw [bu];exact o4⟩
   ·obtain ⟨k,ab⟩:∃k,id - s.heap.length=k+1:=⟨id - s.heap.length - 1,by omega⟩
    rw [ab] at bh
    cases k with
    | zero=>simp at bh;subst bh;trivial
    | succ k=>simp at bh
 ·simp only [List.length_append,List.length_cons,List.length_nil]
  by_cases bB:id=s.heap.length
  ·omega
  ·by_cases aB:id=s.heap.length+1
   ·omega
   ·simp [bQ,bB,aB] at bG;have:=h.er id b bG;omega
theorem Cy {α:Type} (z:List α) (bx:0<z.length):∀(n i:Nat),i<n*z.length→(List.replicate n z).flatten[i]?=z[i % z.length]?
 | 0,i,h=>by simp at h
 | n+1,i,h=>by
  rw [List.replicate_succ,List.flatten_cons]
  by_cases av:i<z.length
  ·rw [List.getElem?_append_left av,Nat.mod_eq_of_lt av]
  ·rw [List.getElem?_append_right (by omega),Cy z bx n (i - z.length) (by rw [Nat.add_mul] at h;omega)]
   congr 1
   rw [←Nat.mod_eq_sub_mod (by omega)]
def na (m:Nat) (z:Array Value):Array Value:=(Array.range m).map ((if m=0 then #[] else z)[· % (if m=0 then #[] else z).size]!)
theorem Ze {t e:TypeId} {i:TypeInfo} {z:Value} {k k':IntKind} {n:Int} (hu:P.underlying t=some (.slice e)) (av:P.info? e=some i) (bx:i.zero=some z)
  (ah:i.bytes≤128) (a0:0≤n) (R:n≤M) :
  (Instr.makeSlice t (.int k n) (.int k' n)).run P w=.ok (.slice (some ⟨w.heap.size,0,none⟩) n.toNat n.toNat) (w.alloc (.cells (na (n.toNat*i.size) z.cells) e)):=by
 have hw:=L6 a0 R
 have c7:(M:Int)=1099511627776:=rfl
 have Co:((i.bytes:Nat):Int)*n≤128*1099511627776:=by
  have aa:((i.bytes:Nat):Int)*n≤128*n:=Int.mul_le_mul_of_nonneg_right (by omega) a0
  omega
 have dr:¬(((i.bytes:Nat):Int)*n>2 ^ 48):=by
  have:(2:Int) ^ 48=281474976710656:=by decide
  rw [this];omega
 have aY:n.toNat*i.bytes≤roomBytes:=by
  have:((n.toNat*i.bytes:Nat):Int)=((i.bytes:Nat):Int)*n:=by rw [Int.natCast_mul,Int.toNat_of_nonneg a0,Int.mul_comm]
  have bn:roomBytes=140737488355328:=by decide
  omega
 have cw:¬(n<0):=by omega
 simp only [Instr.makeSlice,Sem.run_bind,run_underlying hu,Result.andThen_ok,asInt,asIntOf,Sem.run_pure,typeInfo,run_program,av,hw]
 simp only [cw,dr,decide_false,Bool.or_false,Bool.false_eq_true,if_false,Int.lt_irrefl]
 unfold na
 by_cases mo:n.toNat*i.size=0
 ·simp [askRoom,show ¬n.toNat*i.bytes>roomBytes by omega,Go.sizeOf,typeInfo,av,mo,newRow,newObj,Sem.run]
 ·simp [askRoom,show ¬n.toNat*i.bytes>roomBytes by omega,Go.sizeOf,typeInfo,av,mo,newRow,newObj,Sem.run,zeroValue,bx]
theorem Zf {m:Nat} {z:Array Value} (bx:0<z.size) {i:Nat} (av:i<m):(na m z)[i]?=z[i % z.size]?:=by
 have hm:¬m=0:=by omega
 have bz:i % z.size<z.size:=Nat.mod_lt _ bx
 simp [na,hm,av,bz]
def Cz (P:Program) (N:Nat) (o:Oper) (d e:Nat) (z:List AV) (x:aq):Bool:=b2 N o d &&
 (match o.op with | .makeSlice t a9 fc=>cA a9 x&&cA fc x&&rp P t e z.length&&rn P e z | _=>false)
theorem Zg {d e:Nat} {z:List AV} {x:aq} (h:Rel P gl N g s a w) (af:Cz P N o d e z x=true) (he:au gl s (.jT d e z x)=some s'):cJ P gl N o g a w s':=by
 simp only [Cz,Bool.and_eq_true] at af
 obtain ⟨aw,aD⟩:=af
 split at aD
 ·rename_i t a9 fc aE
  simp only [Bool.and_eq_true] at aD
  obtain ⟨⟨⟨ai,aT⟩,ab⟩,bx⟩:=aD
  obtain ⟨hu,cq⟩:=rq ab
  obtain ⟨i,hj,bf,bu,b5,cy,eW,eF⟩:=ky cq
  obtain ⟨j2,v,aG,aJ,bo,cd,dV⟩:=s8 (g:=g) bx
  rw [bf] at aG;simp at aG;subst aG
  rw [cy] at aJ;simp at aJ;subst aJ
  simp only [au] at he
  split at he
  ·rename_i k n a1
   split at he
   ·rename_i ah
    obtain ⟨a0,R⟩:=ah
    have c7:(n:Int)≤M:=by unfold M;omega
    have ex:=(ca h ai a1).hg
    have Zh:=(ca h aT a1).hg
    have bM:=Ze (P:=P) (w:=w) (k:=k) (k':=k) hu bf cy eF a0 c7
    have ea:(na (n.toNat*i.size) hj.cells).size=n.toNat*z.length:=by simp [na,bu]
    have vK:(List.replicate n.toNat z).flatten.length=n.toNat*z.length:=by simp
    have ry:hj.cells.size=z.length:=eW
    have hh:∀j,j<n.toNat*z.length→(na (n.toNat*i.size) hj.cells)[j]?=hj.cells[j % z.length]?∧(List.replicate n.toNat z).flatten[j]?=z[j % z.length]?:=fun j a6=>by
     refine ⟨?_,Cy z b5 _ _ a6⟩
     rw [Zf (by omega) (by rw [bu];exact a6),ry]
    have fR:bW g (List.replicate n.toNat z).flatten (na (n.toNat*i.size) hj.cells).toList:=by
     refine .yi (by rw [Array.length_toList,ea,vK]) fun j c u af hu=>?_
     have a6:j<n.toNat*z.length:=by rw [←vK];exact (List.getElem?_eq_some_iff.1 af).1
     obtain ⟨bK,cg⟩:=hh j a6
     rw [cg] at af
     rw [Array.getElem?_toList,bK] at hu
     obtain ⟨gF,an,ar⟩:=bo.get.2 _ _ af
     rw [Array.getElem?_toList,hu] at an;simp at an;subst an;exact ar
    have iF:∀u∈(na (n.toNat*i.size) hj.cells).toList,u.oneCell'=true:=fun u hu=>by
     obtain ⟨j,a6,CA⟩:=List.getElem_of_mem hu
     have nc:j<n.toNat*z.length:=by rw [←ea];simpa using a6
     have:(na (n.toNat*i.size) hj.cells).toList[j]?=some u:=by rw [List.getElem?_eq_getElem a6,CA]
     rw [Array.getElem?_toList,(hh j nc).1] at this
     exact cd u (List.mem_of_getElem? (by rw [Array.getElem?_toList];exact this))
    have jd:∀c∈(List.replicate n.toNat z).flatten,cc c:=fun c af=>by
     obtain ⟨l,aN,gG⟩:=List.mem_flatten.1 af
     rw [List.eq_of_mem_replicate aN] at gG
     exact dV c gG
    obtain ⟨g',an,ar,aO,bD⟩:=h.Cx cq fR iF jd (by rw [Array.length_toList,ea];exact Nat.mul_le_mul_right _ (by unfold maxLen;omega))
    simp only [b2,Bool.and_eq_true,beq_iff_eq,decide_eq_true_eq] at aw
    refine ⟨.slice (some ⟨w.heap.size,0,none⟩) n.toNat n.toNat,w.alloc (.cells (na (n.toNat*i.size) hj.cells) e),g',.inl ?_,by simpa using an,?_⟩
    ·simp only [execOp,aE,Sem.run_bind,ex,Zh,bM,Result.andThen_ok,Sem.run_pure]
    ·rw [aw.1]
     have:=ar.put he aw.2 (v:=.slice (some ⟨w.heap.size,0,none⟩) n.toNat n.toNat) (.bI _ _ _ _ _ _ _ aO bD (by rw [Nat.zero_add];exact (Array.length_toList▸ea).symm) (Nat.le_refl _)) (.jX fun _ _ _ h=>by simp at h)
     simpa using this
   ·cases he
  ·cases he
 ·cases aD
def CB (P:Program) (N:Nat) (o:Oper) (d bB sz:Nat) (xs:List aq):Bool:=vJ P N o d bB sz xs
theorem Zi {xs:List AV} {us:List Value} {sz:Nat} (h:bW g xs us) (ai:∀x∈xs,x.cells.length=sz∧x.cells.all AV.one=true) :
  bW g (xs.map fun v:AV=>v.cells.map AV.aL).flatten (us.map (·.cells.toList)).flatten∧(∀u∈(us.map (·.cells.toList)).flatten,u.oneCell'=true)∧(∀u∈us,u.cells.size=sz)∧(us.map (·.cells.toList)).flatten.length=us.length*sz:=by
 induction us generalizing xs with
 | nil=>cases h;exact ⟨.nil,by simp,by simp,by simp⟩
 | cons u us ih=>cases h with
  | cons x xs _ _ R aa =>
   obtain ⟨i1,i2,i3,i4⟩:=ih aa fun y aT=>ai y (by simp [aT])
   obtain ⟨bK,cg⟩:=ai x (by simp)
   obtain ⟨cf,cY⟩:=R.cells cg
   have ea:u.cells.size=sz:=by have:=cf.get.1;simp at this;omega
   refine ⟨?_,fun v ax=>?_,fun v ax=>?_,?_⟩
   ·simp only [List.map_cons,List.flatten_cons];exact cf.aL.append i1
   ·simp only [List.map_cons,List.flatten_cons,List.mem_append] at ax
    rcases ax with ax | ax
    ·exact cY v ax
    ·exact i2 v ax
   ·rcases List.mem_cons.1 ax with rfl | ax
    ·exact ea
    ·exact i3 v ax
   ·simp only [List.map_cons,List.flatten_cons,List.length_append,List.length_cons,i4,Array.length_toList,ea,Nat.add_mul];omega
theorem Zj {d bB sz:Nat} {xs:List aq} (h:Rel P gl N g s a w) (af:CB P N o d bB sz xs=true) (he:au gl s (.kr d bB sz xs)=some s'):cJ P gl N o g a w s':=by
 simp only [CB,vJ,s9,Bool.and_eq_true] at af
 obtain ⟨⟨aw,aD⟩,m9⟩:=af
 split at aD
 ·rename_i t n bT aE
  simp only [Bool.and_eq_true,beq_iff_eq] at aD
  obtain ⟨⟨⟨rfl,rr⟩,gR⟩,ab⟩:=aD
  unfold yx at ab
  split at ab
  ·rename_i e hu
   simp only [Bool.and_eq_true,decide_eq_true_eq] at ab
   obtain ⟨fh,ga⟩:=ab
   obtain ⟨i,z,bf,bu,b5,cy,eW,eF⟩:=ky fh
   have th:e=bB:=by
    unfold Ct at m9
    rw [aE] at m9
    simp only [hu,beq_iff_eq] at m9
    exact m9
   subst th
   obtain ⟨vs,aB,aI⟩:=bind_some he
   split at aI
   ·rename_i ah
    simp only [Bool.and_eq_true,decide_eq_true_eq,List.all_eq_true,beq_iff_eq] at ah
    obtain ⟨⟨gC,fG⟩,o6⟩:=ah
    have fR:=oV h gR aB
    have j4:(bT.map fun (i,x)=>(i,a.eval x))=(((bT.toList.map (·.2)).map a.eval).zipIdx.map fun (v,i)=>(i,v)).toArray:=by
     rw [←Ci rr a.eval];apply Array.ext';simp
    have g5:xs.length=((bT.toList.map (·.2)).map a.eval).length:=by
     simp only [gQ,Bool.and_eq_true,beq_iff_eq] at gR;rw [List.length_map];exact gR.1.symm
    generalize (bT.toList.map (·.2)).map a.eval=us at fR j4 g5
    have hlen:=fR.get.1
    obtain ⟨i1,i2,i3,i4⟩:=Zi fR fun x ai=>⟨(gC x ai).1,by rw [List.all_eq_true];exact (gC x ai).2⟩
    have bM:=yy (P:=P) (w:=w) hu bf cy (by omega) (fun v ax=>by rw [i3 v ax];omega) (by
     have R:us.length≤1000:=by rw [hlen];exact fG
     calc _≤1000*1000:=Nat.mul_le_mul R (by omega)
      _≤2 ^ 24:=by decide)
    obtain ⟨g',an,ar,aO,bD⟩:=h.Cx fh i1 i2 (fun c af=>by
     obtain ⟨l,aN,gG⟩:=List.mem_flatten.1 af
     obtain ⟨v,_,rfl⟩:=List.mem_map.1 aN
     exact m7 c gG) (by rw [i4,hlen];exact Nat.mul_le_mul_right _ (by unfold maxLen;omega))
    simp only [b2,Bool.and_eq_true,beq_iff_eq,decide_eq_true_eq] at aw
    refine ⟨.slice (some ⟨w.heap.size,0,none⟩) us.length us.length,_,g',.inl ?_,an,?_⟩
    ·simp only [execOp,aE,Sem.run_bind]
     rw [j4,g5,bM];rfl
    ·rw [aw.1]
     have vL:aU g' (.bI s.heap.length 0 vs.length sz) (.slice (some ⟨w.heap.size,0,none⟩) us.length us.length):=by
      rw [hlen]
      exact aU.bI _ 0 _ _ _ _ vs.length aO bD (by rw [i4,Nat.zero_add,hlen]) (Nat.le_refl _)
     exact ar.put aI aw.2 vL (.jX fun _ _ _ h=>by simp at h)
   ·cases aI
  ·cases ab
 ·cases aD
end
end AM
