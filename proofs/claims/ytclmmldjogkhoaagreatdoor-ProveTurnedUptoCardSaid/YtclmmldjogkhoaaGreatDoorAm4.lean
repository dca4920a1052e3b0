/- An abstract machine, and what of the given program it does, part 5. Conditions: none. -/
import Derived.Test.YtclmmldjogkhoaaGreatDoorAm3
import Derived.Laws.AppendOwnNone
set_option linter.unusedVariables false
namespace AM
open Bool renaming and_eq_true -> I9
open Nat renaming zero_add -> Ja,add_mul -> TH,mul_le_mul_right -> aIA
open List renaming map_cons -> LW,all_eq_true -> fM,getElem?_eq_getElem -> aeZ,length_map -> ae0,replicate -> aB5,getElem?_append_left -> aB8,mem_flatten -> aB9,eq_nil_of_length_eq_zero -> aHW,getElem?_eq_none -> aIB,getElem?_eq_some_iff -> aIC,getElem?_append_right -> aID
open Array renaming length_toList -> aHk,getElem?_toList -> aHV
open Go
section
variable {P:Program}{gl:cp}{N:Nat}{g g':bo}{s s':an}{a:Act}{w w':World}{o:Oper}
variable {α β:Type}{f:α->Sem β}{h:α->β}
theorem RQ :∀{xs:List α},(∀x∈xs,(f x).run P w=.ok (h x) w)->(xs.mapM f).run P w=.ok (xs.map h) w
 |[],_=>by simp|x::xs,ah=>by
  have b:=ah x (by simp);have U:=RQ (xs:=xs) fun y c=>ah y (by simp[c]);simp only[List.mapM_cons,Sem.run_bind,b,Result.andThen_ok,U,Sem.run_pure,LW]
theorem ais{xs:Array α}(ah:∀x∈xs.toList,(f x).run P w=.ok (h x) w):(xs.mapM f).run P w=.ok (xs.map h) w:=by
 rw[Array.mapM_eq_mapM_toList,Sem.run_map,RQ ah];simp only[Result.andThen_ok];congr 1
 apply Array.ext';simp
variable {xs:List AV}{us:List Value}
theorem cr.append{ys:List AV}{vs:List Value}(h:cr g xs us)(b:cr g ys vs):cr g (xs++ys) (us++vs):=by
 induction us generalizing xs with
 |nil=>cases h;exact b|cons u us ih=>cases h with|cons _ _ _ _ h1 U=>exact .cons _ _ _ _ h1 (ih U)
theorem cr.take(h:cr g xs us)(n:Nat):cr g (xs.take n) (us.take n):=by
 induction us generalizing xs n with
 |nil=>cases h;simpa using cr.nil|cons u us ih=>cases h with
  |cons _ _ _ _ h1 U=>cases n with
   |zero=>exact .nil|succ n=>exact .cons _ _ _ _ h1 (ih U n)
theorem cr.drop(h:cr g xs us)(n:Nat):cr g (xs.drop n) (us.drop n):=by
 induction us generalizing xs n with
 |nil=>cases h;simpa using cr.nil|cons u us ih=>cases h with
  |cons _ _ _ _ h1 U=>cases n with
   |zero=>exact .cons _ _ _ _ h1 U|succ n=>exact ih U n
def RR(P:Program)(dm:Array Field)(i off n:Nat):Bool :=
 match dm[i]? with
 |some f=>f.offset==off&&(match P.info? f.type with|some j=>j.size==n|none=>false)|none=>false
def Aj(P:Program)(dm:Array Field):List (Nat×Operand)->List (Nat×Nat×aI)->Bool
 |[],[]=>true|(i,bx)::r,(off,n,x)::r'=>RR P dm i off n&&ds bx x&&Aj P dm r r'|_,_=>false
def RS(P:Program)(t:TypeId)(bP:List (Nat×Operand))(parts:List (Nat×Nat×aI)):Bool :=
 match P.underlying t with
 |some (.struct dm)=>dm.toList.all (fun f=>(P.info? f.type).isSome)&&Aj P dm bP parts|_=>false
def Ak(sz:Nat):List (Nat×Operand)->List (Nat×Nat×aI)->Bool
 |[],[]=>true|(i,bx)::r,(off,n,x)::r'=>off==i*sz&&n==sz&&ds bx x&&Ak sz r r'|_,_=>false
def RT(P:Program)(t:TypeId)(bP:List (Nat×Operand))(parts:List (Nat×Nat×aI)):Bool :=
 match P.underlying t with
 |some (.array _ e)=>(match P.info? e with|some i=>Ak i.size bP parts|none=>false)|_=>false
def Kt(P:Program)(N:Nat)(o:Oper)(d:Nat)(z:List AV)(parts:List (Nat×Nat×aI)):Bool:=cB N o d &&
 (match o.op with|.build t bP=>yh P t z&&(RS P t bP.toList parts||RT P t bP.toList parts)|_=>false)
theorem RU(h:Rel P gl N g s a w)(r:Array Field)(b:Array (Nat×Nat))(z:∀(i:Nat)f,r[i]?=some f->b[i]?=some (f.offset,P.cellsOf f.type)) :
  ∀(parts:List (Nat×Nat×aI))(k:List (Nat×Operand))(cs cs':List AV)(A:Array Value),Aj P r k parts=true->nS gl s.env cs parts=some cs'->cr g cs A.toList->(∀v∈A.toList,v.oneCell'=true) ->
   ∃B,Instr.fill (b[·]?) A (k.map fun(i,x)=>(i,a.eval x))=some B/\cr g cs' B.toList/\∀v∈B.toList,v.oneCell'=true
 |[],k,cs,cs',A,ao,e,m,h1=>by
  cases k with
  |cons=>simp[Aj]at ao|nil=>simp[nS]at e;subst e;exact⟨A,rfl,m,h1⟩
 |(off,n,x)::parts,k,cs,cs',A,ao,e,m,h1=>by
  cases k with
  |nil=>simp[Aj]at ao|cons p k =>
   obtain⟨i,l⟩:=p;simp only[Aj,I9]at ao;obtain⟨⟨d,H⟩,J⟩:=ao;unfold RR at d;split at d
   ·rename_i f t;simp only[I9,beq_iff_eq]at d;obtain⟨rfl,d⟩:=d;split at d
    ·rename_i j K;simp at d;have C:=z i f t;have L:P.cellsOf f.type=n:=by simp[Program.cellsOf,K,d]
     rw[L]at C;simp only[nS]at e;split at e
     ·rename_i u O;split at e
      ·rename_i ae;obtain⟨Q,R,S⟩:=ae;obtain⟨D,W⟩:=(c9 h H O).cells S;have E:A.toList.length=cs.length:=m.get.1;have F:(a.eval l).cells.size=n:=by have:=D.get.1;simp at this;omega
       have y:=F3 f.offset (a.eval l).cells.toList 0 A (by simp at E ⊢;omega);simp only[Nat.add_zero]at y;have cq:((a.eval l).cells.zipIdx.foldl (fun cs(c,j)=>cs.setIfInBounds (f.offset+j) c) A)=((a.eval l).cells.toList.zipIdx.foldl (fun cs(c,j)=>cs.setIfInBounds (f.offset+j) c) A):=by
        rw[<-Array.foldl_toList];simp
       have G:(u.cells.map AV.aW).length=n:=by simpa using Q
       obtain⟨B,T,U,V⟩:=RU h r b z parts k _ cs' ((a.eval l).cells.zipIdx.foldl (fun cs(c,j)=>cs.setIfInBounds (f.offset+j) c) A) J e (by
        rw[cq,y,CC _ _ _ (by rw[G];exact R),G];have:(a.eval l).cells.toList.length=n:=by simpa using F
        rw[this];exact((m.take _).append D.aW).append (m.drop _)) (by
        rw[cq,y];intro v q;rcases List.mem_append.1 q with q|q
        ·grind
        ·exact h1 v (List.mem_of_mem_drop q))
       refine⟨B,?_,U,V⟩;simp only[LW,Instr.fill,C];rw[if_neg (by simp[F];simp at E;omega)];exact T
      ·cases e
     ·cases e
    ·cases d
   ·cases d
theorem RW(h:Rel P gl N g s a w)(sz:Nat):∀(parts:List (Nat×Nat×aI))(d:List (Nat×Operand))(cs cs':List AV)(A:Array Value),Ak sz d parts=true->nS gl s.env cs parts=some cs'->cr g cs A.toList->(∀v∈A.toList,v.oneCell'=true) ->
   ∃B,Instr.fill (fun i=>some (i*sz,sz)) A (d.map fun(i,x)=>(i,a.eval x))=some B/\cr g cs' B.toList/\∀v∈B.toList,v.oneCell'=true
 |[],d,cs,cs',A,ao,b,k,h1=>by
  cases d with
  |cons=>simp[Ak]at ao|nil=>simp[nS]at b;subst b;exact⟨A,rfl,k,h1⟩
 |(off,n,x)::parts,d,cs,cs',A,ao,b,k,h1=>by
  cases d with
  |nil=>simp[Ak]at ao|cons p d =>
   obtain⟨i,e⟩:=p;simp only[Ak,I9,beq_iff_eq]at ao;obtain⟨⟨⟨rfl,rfl⟩,z⟩,C⟩:=ao;simp only[nS]at b;split at b
   ·rename_i u D;split at b
    ·rename_i ae;obtain⟨E,F,G⟩:=ae;obtain⟨q,L⟩:=(c9 h z D).cells G;have r:A.toList.length=cs.length:=k.get.1;have t:(a.eval e).cells.size=n:=by have:=q.get.1;simp at this;omega
     have m:=F3 (i*n) (a.eval e).cells.toList 0 A (by simp at r ⊢;omega);simp only[Nat.add_zero]at m;have cq:((a.eval e).cells.zipIdx.foldl (fun cs(c,j)=>cs.setIfInBounds (i*n+j) c) A)=((a.eval e).cells.toList.zipIdx.foldl (fun cs(c,j)=>cs.setIfInBounds (i*n+j) c) A):=by
      rw[<-Array.foldl_toList];simp
     have y:(u.cells.map AV.aW).length=n:=by simpa using E
     obtain⟨B,H,J,K⟩:=RW h n parts d _ cs' ((a.eval e).cells.zipIdx.foldl (fun cs(c,j)=>cs.setIfInBounds (i*n+j) c) A) C b (by
      rw[cq,m,CC _ _ _ (by rw[y];exact F),y];have:(a.eval e).cells.toList.length=n:=by simpa using t
      rw[this];exact((k.take _).append q.aW).append (k.drop _)) (by
      rw[cq,m];intro v l;rcases List.mem_append.1 l with l|l
      ·grind
      ·exact h1 v (List.mem_of_mem_drop l))
     refine⟨B,?_,J,K⟩;simp only[LW,Instr.fill];rw[if_neg (by simp[t];simp at r;omega)];exact H
    ·cases b
   ·cases b
theorem aiu{d:Nat}{z:List AV}{parts:List (Nat×Nat×aI)}(h:Rel P gl N g s a w)(D:Kt P N o d z parts=true)(he:aH gl s (.build d z parts)=some s'):dR P gl N o g a w s':=by
 simp only[Kt,I9]at D;obtain⟨hd,c⟩:=D;split at c
 ·rename_i t b aA;simp only[I9]at c;obtain⟨K,hk⟩:=c;obtain⟨i,E,F,G,H,J,R⟩:=Ah (g:=g) K;rcases Bool.or_eq_true _ _▸hk with hk|hk
  rotate_left
  ·unfold RT at hk;split at hk
   ·rename_i m e l;split at hk
    ·rename_i j n;obtain⟨cs,p,q⟩:=bind_some he;obtain⟨B,r,u,y⟩:=RW h j.size parts b.toList z cs E.cells hk p H J;refine .value h hd q (v:=.agg B) ?_ (by have:=bb.agg cs B.toList u y;simpa using this) (fun _ _ _ h=>by simp at h);have A:(b.map fun(i,x)=>(i,a.eval x)).toList=b.toList.map fun(i,x)=>(i,a.eval x):=by simp
     simp only[execOp,aA,Sem.run_bind,Instr.build,zeroValue,typeInfo,run_program,F,Result.andThen_ok,Sem.run_pure,G,run_underlying l,Go.sizeOf,n,A,r]
    ·cases hk
   ·cases hk
  unfold RS at hk;split at hk
  ·rename_i k l;simp only[I9,fM]at hk;obtain⟨L,O⟩:=hk;obtain⟨cs,p,q⟩:=bind_some he;have Q:(k.mapM fun f=>do pure (f.offset,<-Go.sizeOf f.type):Sem (Array (Nat×Nat))).run P w=.ok (k.map fun f=>(f.offset,P.cellsOf f.type)) w:=by
    refine ais fun f C=>?_;obtain⟨j,n⟩:=Option.isSome_iff_exists.1 (L f C);simp[Go.sizeOf,typeInfo,n,Program.cellsOf]
   obtain⟨B,r,u,y⟩:=RU h k (k.map fun f=>(f.offset,P.cellsOf f.type)) (fun i f C=>by simp[C]) parts b.toList z cs E.cells O p H J;refine .value h hd q (v:=.agg B) ?_ (by have:=bb.agg cs B.toList u y;simpa using this) (fun _ _ _ h=>by simp at h);have A:(b.map fun(i,x)=>(i,a.eval x)).toList=b.toList.map fun(i,x)=>(i,a.eval x):=by simp
   simp only[execOp,aA,Sem.run_bind,Instr.build,zeroValue,typeInfo,run_program,F,Result.andThen_ok,Sem.run_pure,G,run_underlying l,Q,A,r]
  ·cases hk
 ·cases c
def Kv(P:Program)(N:Nat)(o:Oper)(d:Nat)(c:aI)(e sz:Nat):Bool:=cB N o d &&
 (match o.op with|.makeSlice t (.const (.int .i64 0)) ia=>ds ia c&&yj P t e sz|_=>false)
variable {n:Int}
theorem wrap_small(c:0<=n)(b:n<=M):IntKind.i64.wrap n=n:=by
 unfold M at b;have:IntKind.i64.wrap n=n:=by
  simp[IntKind.wrap,IntKind.bits,IntKind.signed];omega
 exact this
theorem run_makeSlice{t e:TypeId}{i:TypeInfo}{z:Value}{k:IntKind}(d:P.underlying t=some (.slice e))(ak:P.info? e=some i)(j:i.zero=some z)
  (ae:i.bytes<=128)(b:0<=n)(l:n<=M) :
  ∃arr:Array Value,arr.size=n.toNat*i.size/\(Instr.makeSlice t (.int .i64 0) (.int k n)).run P w=.ok (.slice (some ⟨w.heap.size,0,none⟩) 0 n.toNat) (w.alloc (.cells arr e)):=by
 refine⟨(Array.range (n.toNat*i.size)).map ((if n.toNat*i.size=0 then #[]else z.cells)[· % (if n.toNat*i.size=0 then #[]else z.cells).size]!),by simp,?_⟩;have m:=wrap_small b l;have p:IntKind.i64.wrap 0=0:=by decide
 have v:(M:Int)=1099511627776:=rfl;have x:((i.bytes:Nat):Int)*n<=128*1099511627776:=by
  have U:((i.bytes:Nat):Int)*n<=128*n:=Int.mul_le_mul_of_nonneg_right (by omega) b;omega
 have q:¬(n<0\/((i.bytes:Nat):Int)*n>2 ^ 48):=by grind
 have y:n.toNat*i.bytes<=roomBytes:=by
  have:((n.toNat*i.bytes:Nat):Int)=((i.bytes:Nat):Int)*n:=by grind
  have A:roomBytes=140737488355328:=by decide
  omega
 have r:¬(n<0):=by omega
 have u:¬(((i.bytes:Nat):Int)*n>2 ^ 48):=fun h=>q (.inr h);simp only[Instr.makeSlice,Sem.run_bind,run_underlying d,Result.andThen_ok,asInt,asIntOf,Sem.run_pure,typeInfo,run_program,ak,m,p];simp only[r,u,decide_false,Bool.or_false,Bool.false_eq_true,if_false,Int.lt_irrefl,Bool.false_or];by_cases c:n.toNat*i.size=0
 ·simp[askRoom,show ¬n.toNat*i.bytes>roomBytes by omega,Go.sizeOf,typeInfo,ak,c,newRow,newObj,Sem.run]
 ·simp[askRoom,show ¬n.toNat*i.bytes>roomBytes by omega,Go.sizeOf,typeInfo,ak,c,newRow,newObj,Sem.run,zeroValue,j]
end
section
variable {P:Program}{gl:cp}{N:Nat}{g g':bo}{s s':an}{a:Act}{w w':World}{o:Oper}
variable {sz:Nat}
theorem aiv{d e:Nat}{c:aI}(h:Rel P gl N g s a w)(j:Kv P N o d c e sz=true)(he:aH gl s (.q3 d c e sz)=some s'):dR P gl N o g a w s':=by
 simp only[Kv,I9]at j;obtain⟨hd,f⟩:=j;split at f
 ·rename_i t H aA;simp only[I9]at f;obtain⟨ah,hk⟩:=f;obtain⟨v,hk⟩:=CG hk;obtain⟨i,z,l,m,x,p,y,q⟩:=qm hk;simp only[aH]at he;split at he
  ·rename_i k n A;split at he
   ·rename_i ae;have B:=(c9 h ah A).jF;obtain⟨arr,C,D⟩:=run_makeSlice (P:=P) (w:=w) (k:=k) v l p q ae.1 ae.2;simp only[cB,I9,beq_iff_eq,decide_eq_true_eq]at hd;obtain⟨E,F⟩:=h.alloc (.cells arr e) (.var d);refine⟨.slice (some ⟨w.heap.size,0,none⟩) 0 n.toNat,_,_,.inl ?_,E,?_⟩
    ·have G:a.eval (.const (.int .i64 0))=.int .i64 0:=rfl;simp only[execOp,aA,Sem.run_bind,B,G,D];rfl
    ·rw[hd.1];refine F.put he hd.2 (.own _ _ _ _ (.jD _ _ _ (by simp))) ?_;intro J K xs r;simp at r;obtain⟨rfl,rfl,rfl⟩:=r;refine⟨i,z,[],l,m,x,p,y,q,by simp,World.ownsRow_made w arr n.toNat (Nat.zero_le _) (by have:=ae.2;unfold M at this;unfold maxLen;omega) (by rw[C,m]),fun b u=>?_⟩;simp[Value.ownBlock]at u;subst u;exact⟨by simp[bo.iO],.nil _ _ _,fun off _=>h.uP off⟩
   ·cases he
  ·cases he
 ·cases f
variable {t ty e:TypeId}{i:TypeInfo}{v:Value}{n:Nat}{xs:List Value}
theorem F8{z:Value}(A:P.underlying t=some (.slice e))(ak:P.info? e=some i)(E:i.zero=some z)(J:z.cells.size=i.size)
  (q:w.ownsRow 0 e i.size v n xs){ad:Addr}{m c:Nat}{news:List Value}(r:news.length=m*i.size)
  (B:∀j u,news[j]?=some u->w.cell? (ad.add j)=some u)(K:∀u∈news,u.oneCell'=true)(hm:0<m)(L:n+m<=M)(ae:i.bytes<=128) :
  ∃y w',(Builtin.append_ #[t,t] ty #[v,.slice (some ad) m c]).run P w=.ok y w'/\w'.ownsRow 0 e i.size y (n+m) (xs++news)/\w.heap.size<=w'.heap.size /\
   ((y.ownBlock=v.ownBlock/\v.ownBlock≠none/\∀k,some k≠v.ownBlock->w'.heap[k]?=w.heap[k]?)\/(y.ownBlock=some w.heap.size/\w.heap.size<w'.heap.size/\∀k,k<w.heap.size->w'.heap[k]?=w.heap[k]?))/\((w'.os,w'.tape)=(w.os,w.tape)/\w'.output=w.output):=by
 unfold M at L;have F:(n+m)*i.bytes<=140737488355328:=by
  calc (n+m)*i.bytes<=1099511627776*128:=Nat.mul_le_mul (by omega) ae
   _=140737488355328:=by decide
 have O:n+m<=maxLen:=by unfold maxLen;omega
 have b:(xs++news).length=(n+m)*i.size:=by rw[List.length_append,q.1,r,TH]
 have d:∀(f:Nat),f<n+m ->
   (w.drew.alloc (.cells (xs.toArray++news.toArray++Builtin.zeroCells z.cells (grownCap w (n+m) f e-(n+m))) e)).ownsRow 0 e i.size
    (.slice (some ⟨w.heap.size,0,none⟩) (n+m) (grownCap w (n+m) f e)) (n+m) (xs++news):=by
  intro f aA;have Q:=grownCap_ge w (n+m) f e;have C:grownCap w (n+m) f e<=maxLen:=grownCap_le_maxLen w (n+m) f e O;refine⟨b,.inr ⟨w.heap.size,_,_,rfl,Nat.zero_le _,heap_alloc_new w.drew _,Q,C,?_,?_⟩⟩
  ·simp only[Array.size_append,List.size_toArray,size_zeroCells,J,q.1,r,<-TH];congr 1;omega
  ·grind
 rcases q.2 with⟨rfl,rfl⟩|⟨g,cap,l,rfl,U,G,V,C,R,S⟩
 ·have ah:xs=[]:=aHW (by simpa using q.1);subst ah;have x:=run_append_nil (P:=P) w t ty e i z A ak E ad m c news r B hm (by omega) (by simp only[Ja]at F;omega);have H:=d 0 (by omega);simp only[Ja,List.nil_append,Array.empty_append]at H ⊢;exact⟨_,_,x,H,by rw[nm];show w.heap.size<=w.heap.size+1;omega,.inr ⟨rfl,by rw[nm];show w.heap.size<w.heap.size+1;omega,fun k hk=>heap_alloc_old w.drew _ (h:=hk)⟩,rfl,rfl⟩
 ·by_cases D:n+m<=cap
  ·have T:n*i.size+news.length<=l.size:=by rw[r,R,<-TH];exact aIA _ D
   have x:=run_append_room (P:=P) w t ty e i A ak g n cap l G ad m c news r B K D T;refine⟨_,_,x,⟨b,.inr ⟨g,cap,_,rfl,Nat.zero_le _,setRow_heap w g l _ e _ G,D,C,?_,?_⟩⟩,by simp,.inl ⟨rfl,by simp[Value.ownBlock],fun k hk=>setRow_other w g k _ (fun e=>hk (by simp[Value.ownBlock,e]))⟩,rfl,rfl⟩
   ·grind
   ·rw[S,<-b];exact List.take_left
  ·have p:∀j u,xs[j]?=some u->w.cell? ((⟨g,0,none⟩:Addr).add j)=some u:=q.cells (g:=g) rfl;have x:=run_append_grow (P:=P) w t ty e i z A ak E ⟨g,0,none⟩ n cap xs q.1 p ad m c news r B (by omega) (by omega) (growslice_fits (by omega) F);exact⟨_,_,x,d cap (by omega),by rw[nm];show w.heap.size<=w.heap.size+1;omega,.inr ⟨rfl,by rw[nm];show w.heap.size<w.heap.size+1;omega,fun k hk=>heap_alloc_old w.drew _ (h:=hk)⟩,rfl,rfl⟩
theorem RX(b:P.underlying t=some (.slice e))(ak:P.info? e=some i)(d:w.ownsRow 0 e i.size v n xs)(base:Option Addr)(c:Nat) :
  (Builtin.append_ #[t,t] ty #[v,.slice base 0 c]).run P w=.ok v w:=by
 have ae:∀(s:Option Addr)(k cap:Nat),k<=cap->(Builtin.append_ #[t,t] ty #[.slice s k cap,.slice base 0 c]).run P w=.ok (.slice s k cap) w:=by
  intro s k cap hk;cases base<;>cases s<;>simp[Builtin.append_,run_underlying b,Go.sizeOf,typeInfo,ak,Builtin.lenOf,hk,Builtin.firstCells,loadCells,loadCellsFrom,storeCells]
 rcases d.2 with⟨rfl,rfl⟩|⟨g,cap,f,rfl,j,l,h,m,p,q⟩
 ·exact ae none 0 0 (by omega)
 ·exact ae _ n cap h
variable {γ:e4}
theorem e5.mE :∀{cs:List AV}{b off:Nat},e5 γ b off cs->∃us:List Value,us.length=cs.length/\fB γ cs us/\(∀v∈us,v.oneCell'=true)/\∀j u,us[j]?=some u->γ b (off+j)=some u
 |[],_,_,_=>⟨[],rfl,.nil,by simp,by simp⟩|c::cs,b,off,.cons _ _ _ _ v h1 U f h=>by
  obtain⟨us,k,l,m,p⟩:=e5.mE h;refine⟨v::us,by simp[k],.cons _ _ _ _ U f l,by simpa[U]using m,fun j u d=>?_⟩;cases j with
  |zero=>simp at d;subst d;exact h1|succ j=>have:=p j u (by simpa using d);rw[<-this];congr 1;omega
theorem eI.mE :∀{xs:List AV}{b off:Nat},eI γ b off sz xs->∃rows:List (List Value),xs.length=rows.length /\
  (∀(i:Nat)x r,xs[i]?=some x->rows[i]?=some r->x.cells.length=sz/\fB γ x.cells r/\r.length=sz)/\(∀r∈rows,∀v∈r,v.oneCell'=true) /\
  rows.flatten.length=xs.length*sz/\∀j u,rows.flatten[j]?=some u->γ b (off+j)=some u
 |[],_,_,_=>⟨[],rfl,by simp,by simp,by simp,by simp⟩|x::xs,b,off,.cons _ _ _ _ _ h1 U c=>by
  obtain⟨us,d,l,m,p⟩:=U.mE;obtain⟨rows,f,q,z,h,A⟩:=eI.mE c;refine⟨us::rows,by simp[f],fun i y r B k=>?_,fun r k v C=>?_,by simp[h,d,h1,TH,Nat.add_comm],fun j u D=>?_⟩
  ·grind
  ·grind
  ·grind
theorem fB.mono{b:e4}(h:wB γ b):∀{cs:List AV}{ws:List Value},fB γ cs ws->fB b cs ws
 |[],_,.nil=>.nil|_::_,_,.cons _ _ _ _ h1 U c=>.cons _ _ _ _ h1 (U.mono h) (fB.mono h c)
theorem eI.append{b:Nat}:∀{xs ys:List AV}{off:Nat},eI γ b off sz xs->eI γ b (off+xs.length*sz) sz ys->eI γ b off sz (xs++ys)
 |[],ys,off,_,h=>by simpa using h|x::xs,ys,off,.cons _ _ _ _ _ h1 U c,h=>.cons _ _ _ _ _ h1 U (eI.append c (by
   have:off+(x::xs).length*sz=off+sz+xs.length*sz:=by simp[TH];omega
   rwa[this]at h))
end
section
variable {P:Program}{gl:cp}{N:Nat}{g g':bo}{s s':an}{a:Act}{w w':World}{o:Oper}
def bo.app(g:bo)(b:Nat)(cells:List Value)(ow:ey):bo :=
 { g with γ:=fun k off=>if k=b then cells[off]? else g.γ k off,bD:=fun k=>if k=b then ow else g.bD k }
variable {e sz:Nat}{xs:List AV}{v:Value}
theorem e6.cells(h:Rel P gl N g s a w){ow:ey}(aA:e6 P g w ow (.list (some e) sz xs) v) :
  ∃i z vs,P.info? e=some i/\i.size=sz/\0<sz/\i.zero=some z/\z.cells.size=sz/\i.bytes<=128/\w.ownsRow 0 e sz v xs.length vs /\
   (∀b,v.ownBlock=some b->g.bD b=ow/\∀off,g.γ b off=vs[off]?) /\
   (∀m n,(wB g.γ m)->(∀j u,vs[j]?=some u->m n j=some u)->eI m n 0 sz xs):=by
 obtain⟨i,z,vs,J,U,K,L,O,Q,uA,d,B⟩:=aA e sz xs rfl;refine⟨i,z,vs,J,U,K,L,O,Q,d,fun b ae=>?_,fun m n p R=>?_⟩
 ·obtain⟨C,q,D⟩:=B b ae;refine⟨C,fun off=>?_⟩;obtain⟨c,E,F,S,G,t⟩:=q.mE;by_cases T:off<xs.length*sz
  ·have y:c.flatten[off]?=some (c.flatten[off]'(by omega)):=aeZ (by omega);have f:=t off _ y;rw[Ja]at f;have A:=h.ff _ _ _ f;have l:vs[off]?=some (vs[off]'(by rw[d.1];exact T)):=aeZ _;have:=d.cells ae off _ l;rw[ni,Ja,A]at this;rw[f,l];exact this
  ·rw[D off (by omega),aIB (by rw[d.1];omega)]
 ·cases ae:v.ownBlock with
  |none =>
   rcases d.2 with⟨_,V⟩|⟨k,cap,W,rfl,_⟩
   ·rw[aHW V];exact .nil _ _ _
   ·simp[Value.ownBlock]at ae
  |some b =>
   obtain⟨C,q,D⟩:=B b ae;obtain⟨c,E,F,S,G,t⟩:=q.mE;refine eI.CF E (fun k x r ah y=>?_) fun j u H=>?_
   ·obtain⟨X,Y,Z⟩:=F k x r ah y;exact⟨X,Y.mono p,Z⟩
   ·have f:=t j u H;rw[Ja]at f ⊢;have A:=h.ff _ _ _ f;have aZ:j<vs.length:=by rw[d.1,<-G];exact(aIC.1 H).1
    have l:vs[j]?=some vs[j]:=aeZ aZ;have:=d.cells ae j _ l;rw[ni,Ja,A]at this;exact R j u (by rw[l];exact this.symm)
theorem F9(s:an)(x sz:Nat)(xs:List AV):kH { s with env:=s.env.ins x (.v (.list none sz xs)) } (.var x) :=
 ⟨fun t z c b=>by simp at c;subst c;simp only[Env.hp]at b;simp at b;subst b;exact cP.none _ _,by simp,by simp,by simp,by simp,by simp⟩
def Ga(P:Program)(N:Nat)(o:Oper)(d u:Nat)(x:aI)(e sz:Nat):Bool:=cB N o d &&
 (match si o.op with|some (.append,[.tmp kq,bx],[t,ix])=>kq==u&&t==ix&&ds bx x&&yj P t e sz|_=>false)
theorem bb.Kx{y:AV}(h:bb g y v)(c:y.iI=some (sz,xs)) :
  ∃base cap,v=.slice base xs.length cap/\(xs.length<=M/\xs.length<=cap)/\(xs=[]\/∃b off,base=some ⟨b,off,none⟩/\eI g.γ b off sz xs):=by
 unfold AV.iI at c;split at c
 ·simp at c;obtain⟨rfl,rfl⟩:=c;exact h.yd
 ·simp at c;obtain⟨rfl,rfl⟩:=c;exact⟨none,0,h.tk,by simp,.inl rfl⟩
 ·simp at c;obtain⟨rfl,rfl⟩:=c;obtain⟨base,cap,d⟩:=h.JX;exact⟨some base,cap,d,by simp,.inl rfl⟩
 ·cases c
variable {d u:Nat}
theorem RY{ys:List AV}{A:Value}{i:TypeInfo}{z:Value}{vs:List Value}{rows:List (List Value)}(h:Rel P gl N g s a w)(nh:kH s (.var u))
  (bO:P.info? e=some i)(c5:0<i.size)(dH:i.zero=some z)(gK:z.cells.size=i.size)(hQ:i.bytes<=128)(X:w.ownsRow 0 e i.size v xs.length vs)
  (Y:∀b,v.ownBlock=some b->g.bD b=.var u/\∀off,g.γ b off=vs[off]?)(wN:∀J l,(wB g.γ J)->(∀j y,vs[j]?=some y->J l j=some y)->eI J l 0 i.size xs)
  (m1:ys.length=rows.length)(m2:∀(k:Nat)x r,ys[k]?=some x->rows[k]?=some r->x.cells.length=i.size/\fB g.γ x.cells r/\r.length=i.size)
  (Z:xs.length+ys.length<=M)(C:w'.ownsRow 0 e i.size A (xs.length+ys.length) (vs++rows.flatten))(fc:w.heap.size<=w'.heap.size)(gm:(w'.os,w'.tape)=(w.os,w.tape)/\w'.output=w.output)
  (K:(A.ownBlock=v.ownBlock/\v.ownBlock≠none/\∀k,some k≠v.ownBlock->w'.heap[k]?=w.heap[k]?)\/(A.ownBlock=some w.heap.size/\w.heap.size<w'.heap.size/\∀k,k<w.heap.size->w'.heap[k]?=w.heap[k]?))
  (gI:o.dst=some d/\d<N)(aX:s.put d (.list (some e) i.size (xs++ys))=some s')(cu:(execOp a.eval o).run P w=.ok (.value A) w'):dR P gl N o g a w s':=by
 have f:∃c,A.ownBlock=some c:=by
  rcases K with⟨n,ht,_⟩|⟨n,_⟩
  ·cases E:v.ownBlock with
   |none=>exact absurd E ht|some b=>exact⟨b,by rw[n,E]⟩
  ·exact⟨_,n⟩
 obtain⟨c,f⟩:=f
 -- the ghost grows
 have D:∀l q y,g.γ l q=some y->l=c->v.ownBlock=some c:=by
  intro l q y m e;subst e;rcases K with⟨n,_⟩|⟨n,_⟩
  ·rw[<-n,f]
  ·rw[n]at f;simp at f;subst f;rw[h.uP]at m;cases m
 have p:GhLe g (g.app c (vs++rows.flatten) (.var d)):=⟨fun l q y m=>by
  by_cases e:l=c
  ·have E:=D _ _ _ m e;subst e;simp only[bo.app,if_true];rw[(Y _ E).2]at m;rw[aB8 (aIC.1 m).1];exact m
  ·simp[bo.app,e,m],fun _ _ F=>F⟩
 have mF:g.bD c=.none\/g.bD c=.var u:=by
  rcases K with⟨n,_⟩|⟨n,_⟩
  ·right;exact(Y c (by rw[<-n,f])).1
  ·left;rw[n]at f;simp at f;subst f;exact h.CA
 have t:∀k,k≠c->k<w.heap.size->w'.heap[k]?=w.heap[k]?:=by grind
 have RZ:∀k,g.bD k≠.none->g.bD k≠.var u->(g.app c (vs++rows.flatten) (.var d)).bD k=g.bD k/\w'.heap[k]?=w.heap[k]?/\∀o,(g.app c (vs++rows.flatten) (.var d)).γ k o=g.γ k o:=by
  intro k hr gJ;have cc:k≠c:=fun e=>by subst e;rcases mF with F|F<;>simp[F]at hr gJ
  exact⟨by simp[bo.app,cc],t k cc (h.own k hr),fun _=>by simp[bo.app,cc]⟩
 have CI:=C.cells f;have L:∀l q y,(g.app c (vs++rows.flatten) (.var d)).γ l q=some y->w'.cell? ⟨l,q,none⟩=some y:=by
  intro l q y m;by_cases e:l=c
  ·subst e;simp only[bo.app,if_true]at m;have:=CI q y m;rwa[ni,Ja]at this
  ·simp[bo.app,e]at m;have G:=h.ff _ _ _ m;unfold World.cell? at G ⊢;rw[t l e (Ag (h.ff _ _ _ m))];exact G
 have cm:=h.step (g':=g.app c (vs++rows.flatten) (.var d)) (w':=w') (.var u) nh p (fun k hk=>RZ k hk.1 hk.2) L (fun k hk=>by
  by_cases e:k=c
  ·subst e;have:=C.lt k f;exact this.2
  ·simp[bo.app,e]at hk;have:=h.own k hk;omega) h.fE
 have O:ef g w (g.app c (vs++rows.flatten) (.var d)) w':=⟨p,fun k hk=>by
  obtain⟨Q,R,S⟩:=RZ k (by rw[hk];simp) (by rw[hk];simp);exact⟨Q.trans hk,R,S⟩,fc,gm.1,gm.2⟩
 -- the new list
 have T:eI (g.app c (vs++rows.flatten) (.var d)).γ c 0 i.size xs:=wN _ c p.γ fun j u H=>by
  simp only[bo.app,if_true];rw[aB8 (aIC.1 H).1];exact H
 have U:eI (g.app c (vs++rows.flatten) (.var d)).γ c (0+xs.length*i.size) i.size ys:=by
  refine eI.CF m1 (fun k x r ah aw=>?_) fun j u H=>?_
  ·obtain⟨Q,R,S⟩:=m2 k x r ah aw;exact⟨Q,R.mono p.γ,S⟩
  ·simp only[bo.app,if_true];rw[Ja,aID (by rw[X.1];omega),X.1];rw[<-H];congr 1;omega
 have eK:=eI.append T U;have dU:∃B,A=.slice (some ⟨c,0,none⟩) (xs.length+ys.length) B/\xs.length+ys.length<=B:=by
  rcases C.2 with⟨rfl,_⟩|⟨k,B,cur,rfl,_,_,G,_⟩
  ·simp[Value.ownBlock]at f
  ·simp[Value.ownBlock]at f;subst f;exact⟨B,rfl,G⟩
 obtain⟨B,rfl,V⟩:=dU;refine⟨.slice (some ⟨c,0,none⟩) (xs.length+ys.length) B,w',_,.inl cu,O,?_⟩;rw[gI.1];refine cm.put aX gI.2 (.own _ _ _ _ (.Af (by simp) (by simpa using Z) (by simpa using V) eK)) ?_;intro b3 dE mG Ae;simp at Ae;obtain⟨rfl,rfl,rfl⟩:=Ae;refine⟨i,z,vs++rows.flatten,bO,rfl,c5,dH,gK,hQ,by simpa using Z,by simpa using C,fun l W=>?_⟩;rw[f]at W;simp at W;subst W;refine⟨by simp[bo.app],eK,fun off x9=>?_⟩;simp only[bo.app,if_true];rw[aIB];rw[C.1];simpa using x9
theorem aiB{x:aI}(h:Rel P gl N g s a w)(af:Ga P N o d u x e sz=true)(he:aH gl s (.app d u x e sz)=some s'):dR P gl N o g a w s':=by
 simp only[Ga,I9]at af;obtain⟨hd,L⟩:=af;split at L
 ·rename_i O bx t ix aA;obtain⟨wD,Q⟩:=uH (o:=o) aA rfl a.eval;simp only[I9,beq_iff_eq]at L;obtain⟨⟨⟨rfl,rfl⟩,ah⟩,hk⟩:=L;obtain⟨R,hk⟩:=CG hk;have f:=hd;simp only[cB,I9,beq_iff_eq,decide_eq_true_eq]at f;simp only[aH]at he;split at he
  ·rename_i b3 dE xs nf q az k;obtain⟨y,k,T⟩:=bind_some k;split at he
   ·rename_i ae;obtain⟨rfl,rfl,rfl,U,A⟩:=ae;obtain⟨s1,V,W⟩:=bind_some he;obtain⟨ai,aY⟩:=h.strip az;rw[ai]at V;simp at V;subst V;obtain⟨v,X,B,S⟩:=h.env _ _ az;obtain⟨i,z,vs,l,Y,Z,C,D,E,m,uV,wN⟩:=e6.cells h S;obtain⟨base,cap,F,au,n⟩:=bb.Kx (c9 h ah k) T;have G:a.eval (.tmp O)=v:=by simp[Act.eval,X]
    subst Y;by_cases H:q=[]
    ·subst H;have p:=RX (P:=P) (w:=w) (ty:=o.type) R l m base cap;simp only[List.append_nil]at W;obtain⟨g',J,K⟩:=aY.z8 (F9 _ _ _ _) (by simp) (by simp) f.2 W B S ⟨_,_,_,rfl⟩;refine⟨v,w,g',.inl ?_,J,by rw[f.1];exact K⟩;rw[Q];simp only[builtin,LW,List.map_nil,G,F,List.length_nil,Sem.run_bind,p,Result.andThen_ok,Sem.run_pure]
    ·rcases n with n|⟨b,off,rfl,bI⟩
     ·exact absurd n H
     obtain⟨rows,J,K,m3,m4,m5⟩:=bI.mE;have ra:∀j u,rows.flatten[j]?=some u->w.cell? ((⟨b,off,none⟩:Addr).add j)=some u:=fun j u aZ=>by rw[ni];exact h.ff _ _ _ (m5 j u aZ)
     have lX:∀u∈rows.flatten,u.oneCell'=true:=fun u nj=>by
      obtain⟨r,p,Ky⟩:=aB9.1 nj;exact m3 r p u Ky
     have qo:0<q.length:=by grind
     obtain⟨cQ,w',cY,c4,fc,eU,gm⟩:=F8 (P:=P) (w:=w) (ty:=o.type) (c:=cap) R l C D m m4 ra lX qo A E;refine RY (rows:=rows) aY (F9 _ _ _ _) l Z C D E m uV wN J K A c4 fc gm eU f W ?_;rw[Q];simp only[builtin,LW,List.map_nil,G,F,Sem.run_bind,cY,Result.andThen_ok,Sem.run_pure]
   ·cases he
  ·rename_i dE nf q az k;obtain⟨y,k,T⟩:=bind_some k;split at he
   ·rename_i ae;obtain⟨rfl,rfl,U,A⟩:=ae;obtain⟨v,X,B,_⟩:=h.env _ _ az;have B:=B.tk;subst B;have S:=Cq hk g w (.var O);have nh:kH s (.var O):=⟨fun t z ay bJ=>by simp at ay;subst ay;rw[az]at bJ;simp at bJ;subst bJ;exact fun _ _ _ h=>by simp at h,by simp,by simp,by simp,by simp,by simp⟩;obtain⟨i,z,vs,l,Y,Z,C,D,E,m,uV,wN⟩:=e6.cells h S;obtain⟨base,cap,F,au,n⟩:=bb.Kx (c9 h ah k) T;have G:a.eval (.tmp O)=.slice none 0 0:=by simp[Act.eval,X]
    subst Y;by_cases H:q=[]
    ·subst H;have p:=RX (P:=P) (w:=w) (ty:=o.type) R l m base cap;refine⟨.slice none 0 0,w,g,.inl ?_,.refl _ _,by rw[f.1];exact h.put he f.2 (.own _ _ _ _ (.jD _ _ _ (by simp))) (Cq hk g w _)⟩;rw[Q];simp only[builtin,LW,List.map_nil,G,F,List.length_nil,Sem.run_bind,p,Result.andThen_ok,Sem.run_pure]
    ·rcases n with n|⟨b,off,rfl,bI⟩
     ·exact absurd n H
     obtain⟨rows,J,K,m3,m4,m5⟩:=bI.mE;have ra:∀j u,rows.flatten[j]?=some u->w.cell? ((⟨b,off,none⟩:Addr).add j)=some u:=fun j u aZ=>by rw[ni];exact h.ff _ _ _ (m5 j u aZ)
     have lX:∀u∈rows.flatten,u.oneCell'=true:=fun u nj=>by
      obtain⟨r,p,Ky⟩:=aB9.1 nj;exact m3 r p u Ky
     have qo:0<q.length:=by grind
     obtain⟨cQ,w',cY,c4,fc,eU,gm⟩:=F8 (P:=P) (w:=w) (ty:=o.type) (c:=cap) R l C D m m4 ra lX qo (by simpa using A) E;refine RY (rows:=rows) (xs:=[]) h nh l Z C D E m uV wN J K (by simpa using A) c4 fc gm eU f he ?_;rw[Q];simp only[builtin,LW,List.map_nil,G,F,Sem.run_bind,cY,Result.andThen_ok,Sem.run_pure]
   ·cases he
  ·cases he
 ·cases L
end
section
variable {P:Program}{gl:cp}{N:Nat}{g g':bo}{s s':an}{a:Act}{w w':World}{o:Oper}
theorem aiD{c:AV}(h:c.eb=true):c.one=true:=by
 cases c<;>first|rfl|simp[AV.eb]at h
variable {d:Nat}{x:aI}
theorem aiE(h:Rel P gl N g s a w)(b:wI N o d x=true)(he:aH gl s (.r5 d x)=some s'):dR P gl N o g a w s':=by
 simp only[wI,I9]at b;obtain⟨hd,f⟩:=b;split at f
 ·rename_i e j aA;obtain⟨u,m,U⟩:=bind_some he;split at U
  ·rename_i ao;simp only[cB,I9,beq_iff_eq,decide_eq_true_eq]at hd;have n:u.cells.all AV.one=true:=by
    rw[fM]at ao ⊢;exact fun c b=>aiD (ao c b)
   obtain⟨p,q⟩:=(c9 h f m).cells n;have r:=p.Km ao q;obtain⟨l,t⟩:=h.Ko (a.eval j).cells e;have k:=l.toGhLe;have y:e5 (g.lp w.heap.size (a.eval j).cells).γ w.heap.size 0 u.cells :=
    e5.F2 (r.mono k.γ) fun i v z=>by simpa[bo.lp]using z
   refine⟨ptrTo w.heap.size 0,w.alloc (.cells (a.eval j).cells e),_,.inl ?_,l,?_⟩
   ·simp only[execOp,aA,Sem.run_bind,FZ,Result.andThen_ok,Sem.run_pure]
   ·rw[hd.1];exact t.put U hd.2 (.pure _ _ (.db _ _ _ y)) (Cx _).gb
  ·cases U
 ·cases f
variable {t e:TypeId}
theorem aiF(d:Nat)(f:P.underlying t=some (.slice e))(b:Option Addr)(n c:Nat):(Op.equalIn (d+1) t (.slice b n c) (.slice none 0 0)).run P w=.ok b.isNone w:=by
 cases b<;>simp[Op.equalIn,run_underlying f]
theorem R0(f:P.underlying t=some (.slice e))(b:Option Addr)(n c:Nat):(Op.equal t (.slice b n c) (.slice none 0 0)).run P w=.ok b.isNone w:=aiF 9999 f b n c
def R1:Value->Bool
 |.slice none 0 0=>true|_=>false
def Kz(P:Program)(N:Nat)(o:Oper)(d:Nat)(ne:Bool)(x:aI):Bool:=cB N o d &&
 (match o.op with|.binOp op t bx (.const c) _=>decide (op=if ne then .neq else .eql)&&ds bx x&&R1 c&&(match P.underlying t with|some (.slice _)=>true|_=>false)|_=>false)
theorem aiG{ne:Bool}(h:Rel P gl N g s a w)(k:Kz P N o d ne x=true)(he:aH gl s (.q7 d ne x)=some s'):dR P gl N o g a w s':=by
 simp only[Kz,I9]at k;obtain⟨hd,i⟩:=k;split at i
 ·rename_i op t l c u aA;simp only[I9,decide_eq_true_eq]at i;obtain⟨⟨⟨i,ah⟩,m⟩,hk⟩:=i;split at hk
  ·rename_i e q;have k:c=.slice none 0 0:=by unfold R1 at m;split at m<;>first|rfl|cases m
   subst k;have r:a.eval (.const (.slice none 0 0))=.slice none 0 0:=rfl;have p:∀b n j,a.eval l=.slice b n j->(execOp a.eval o).run P w=.ok (.value (.bool (if ne then !b.isNone else b.isNone))) w:=by
    intro b n j f;cases ne with
    |false =>
     simp only[Bool.false_eq_true,if_false]at i ⊢;subst i;simp only[execOp,aA,f,r,Sem.run_bind];have:=Ct (P:=P) (w:=w) (xo:=l) (yo:=.const (.slice none 0 0)) (x:=.slice b n j) (y:=.slice none 0 0) (t:=t) (by simp[eqGuard]) (by simp[binOp]) (R0 q b n j);simp only[Sem.run_bind]at this;rw[this];rfl
    |true =>
     simp only[if_true]at i ⊢;subst i;simp only[execOp,aA,f,r,Sem.run_bind];have:=Cu (P:=P) (w:=w) (xo:=l) (yo:=.const (.slice none 0 0)) (x:=.slice b n j) (y:=.slice none 0 0) (t:=t) (by simp[eqGuard]) (by simp[binOp]) (R0 q b n j);simp only[Sem.run_bind]at this;rw[this];rfl
   simp only[aH]at he;split at he
   ·rename_i sz f;have f:=(c9 h ah f).tk;refine .value h hd he (p _ _ _ f) ?_ (oH _);cases ne<;>exact .pure _ _ (.bool _)
   ·rename_i sz f;obtain⟨base,cap,f⟩:=(c9 h ah f).JX;refine .value h hd he (p _ _ _ f) ?_ (oH _);cases ne<;>exact .pure _ _ (.bool _)
   ·rename_i own sz y v f;obtain⟨base,cap,f,_,ae⟩:=(c9 h ah f).yd;rcases ae with ae|⟨b,off,rfl,_⟩
    ·cases ae
    refine .value h hd he (p _ _ _ f) ?_ (oH _);cases ne<;>exact .pure _ _ (.bool _)
   ·cases he
  ·cases hk
 ·cases i
def KA(P:Program)(o:Oper)(e0:Nat):Bool:=match o.op with
 |.buildSlice t _ _=>(match P.underlying t with|some (.slice e)=>e==e0|_=>false)|_=>false
def CN(P:Program)(N:Nat)(o:Oper)(d e0 sz:Nat)(xs:List aI):Bool:=Ai P N o d sz xs&&KA P o e0
theorem aiH{e0 sz:Nat}{xs:List aI}(h:Rel P gl N g s a w)(K:CN P N o d e0 sz xs=true)(he:aH gl s (.pt d e0 sz xs)=some s'):dR P gl N o g a w s':=by
 simp only[CN,Ai,I9]at K;obtain⟨⟨hd,p⟩,q⟩:=K;split at p
 ·rename_i t n u aA;simp only[I9,beq_iff_eq]at p;obtain⟨⟨⟨rfl,yk⟩,B⟩,hk⟩:=p;unfold F4 at hk;split at hk
  ·rename_i e L;simp only[I9,decide_eq_true_eq]at hk;obtain⟨hr,gJ⟩:=hk;obtain⟨i,z,O,Q,c5,R,gK,hQ⟩:=qm hr;obtain⟨vs,aN,C⟩:=bind_some he;split at C
   ·rename_i ae;simp only[I9,decide_eq_true_eq,fM,beq_iff_eq]at ae;obtain⟨ep,S⟩:=ae;have T:=uD h B aN;have U:(u.map fun(i,x)=>(i,a.eval x))=(((u.toList.map (·.2)).map a.eval).zipIdx.map fun(v,i)=>(i,v)).toArray:=by
     rw[<-Kq yk a.eval];apply Array.ext';simp
    have V:xs.length=((u.toList.map (·.2)).map a.eval).length:=by
     simp only[jh,I9,beq_iff_eq]at B;rw[ae0];exact B.1.symm
    generalize (u.toList.map (·.2)).map a.eval=us at T U V;have j:=T.get
    -- the concrete elements
    have W:∀(k:Nat)x v,vs[k]?=some x->us[k]?=some v->df g.γ x.aW v/\x.aW.cells.length=sz/\v.cells.size=sz:=by
     intro k x v ah f;obtain⟨kr,nn⟩:=ep x (List.mem_of_getElem? ah);obtain⟨X,m,D⟩:=j.2 k x ah;rw[f]at m;simp at m;subst m;have ao:=D.aW.Kn kr;have ji:x.aW.cells.length=sz:=by
      have:x.aW.cells.length=x.cells.length:=by cases x<;>rfl
      rw[this];exact nn
     refine⟨ao,ji,?_⟩;have Ks:=ao.cells;have:∀{cs:List AV}{ws:List Value},fB g.γ cs ws->ws.length=cs.length:=by
      intro cs ws Y;induction ws generalizing cs with
      |nil=>cases Y;rfl|cons w ws ih=>cases Y with|cons _ _ _ _ _ _ ai=>simp[ih ai]
     have:=this Ks;simp at this;omega
    have Z:∀v∈us,v.cells.size=i.size:=by
     intro v f;obtain⟨k,jG,gd⟩:=List.getElem_of_mem f;have fQ:k<vs.length:=by have:=j.1;omega
     have:=(W k vs[k] v (by simp[fQ]) (by rw[aeZ jG,gd])).2.2;omega
    have cu:=F5 (P:=P) (w:=w) L O R (by omega) Z (by
     have h1:us.length<=1000:=by rw[j.1];exact S
     calc _<=1000*1000:=Nat.mul_le_mul h1 (by omega)
      _<=2 ^ 24:=by decide)
    obtain⟨m,D⟩:=h.Ko (us.map (·.cells.toList)).flatten.toArray e;have y:(us.map (·.cells.toList)).flatten.length=us.length*sz:=by
     have:∀(l:List Value),(∀v∈l,v.cells.size=sz)->(l.map (·.cells.toList)).flatten.length=l.length*sz:=by
      intro l;induction l with
      |nil=>simp|cons v l ih=>intro aD;simp only[LW,List.flatten_cons,List.length_append,List.length_cons,ih fun v f=>aD v (by simp[f]),aHk,aD v (by simp),TH];omega
     exact this us fun v f=>by rw[Z v f];exact Q
    have c:(vs.map AV.aW).length=us.length:=by rw[ae0];exact j.1.symm
    have eK:eI (g.lp w.heap.size (us.map (·.cells.toList)).flatten.toArray).γ w.heap.size 0 sz (vs.map AV.aW):=by
     refine eI.CF (rows:=us.map (·.cells.toList)) (by rw[ae0,ae0];exact j.1.symm) (fun k x r ah A=>?_) fun k v f=>by simpa[bo.lp]using f
     rw[List.getElem?_map]at ah A;cases E:vs[k]? with
     |none=>simp[E]at ah|some bx =>
      cases F:us[k]? with
      |none=>simp[F]at A|some X =>
       simp[E]at ah;simp only[F,Option.map_some,Option.some.injEq]at A;subst ah A;obtain⟨G,H,m3⟩:=W k bx X E F;exact⟨H,(G.mono m.γ).cells,by simpa using m3⟩
    have An:e=e0:=by
     unfold KA at q;rw[aA]at q;simp only[L,beq_iff_eq]at q;exact q
    subst An;simp only[cB,I9,beq_iff_eq,decide_eq_true_eq]at hd;have nh:kH s .Co:=⟨by simp,by simp,by simp,by simp,by simp,by simp⟩;have KB:us.length<=1000:=by rw[j.1];exact S
    have J:bb (g.lp w.heap.size (us.map (·.cells.toList)).flatten.toArray) (.list (some e) sz (vs.map AV.aW)) (.slice (some ⟨w.heap.size,0,none⟩) us.length us.length) :=
     .own _ _ _ _ (.Af c.symm (by simp;unfold M;omega) (by omega) eK)
    have fk:e6 P (g.lp w.heap.size (us.map (·.cells.toList)).flatten.toArray) (w.alloc (.cells (us.map (·.cells.toList)).flatten.toArray e)) .Co (.list (some e) sz (vs.map AV.aW)) (.slice (some ⟨w.heap.size,0,none⟩) us.length us.length):=by
     intro b3 dE ys a1;simp at a1;obtain⟨rfl,rfl,rfl⟩:=a1;refine⟨i,z,(us.map (·.cells.toList)).flatten,O,Q,c5,R,gK,hQ,by simp;unfold M;omega,⟨by rw[y,c],.inr ⟨w.heap.size,us.length,(us.map (·.cells.toList)).flatten.toArray,by rw[c],Nat.zero_le _,heap_alloc_new w _,by omega,by unfold maxLen;omega,by simpa using y,?_⟩⟩,fun b ae=>?_⟩
     ·rw[c,<-y];exact List.take_length
     ·simp[Value.ownBlock]at ae;subst ae;refine⟨by simp[bo.lp],eK,fun off x9=>?_⟩;simp only[bo.lp,if_true,List.getElem?_toArray];rw[aIB];rw[y,<-c];exact x9
    obtain⟨g',G,H⟩:=D.z8 nh (by simp) (by simp) hd.2 C J fk ⟨_,_,_,rfl⟩;refine⟨.slice (some ⟨w.heap.size,0,none⟩) us.length us.length,_,g',.inl ?_,m.trans G,?_⟩
    ·simp only[execOp,aA,Sem.run_bind];rw[U,V,cu];rfl
    ·rw[hd.1];exact H
   ·cases C
  ·cases hk
 ·cases p
end
section
variable {P:Program}{gl:cp}{N:Nat}{g g':bo}{s s':an}{a:Act}{w w':World}{o:Oper}
def Gb(P:Program)(t n sz:Nat):Bool:=match P.underlying t with
 |some (.array m e)=>m==n&&(match P.info? e with|some f=>f.size==sz|none=>false)|_=>false
variable {t n sz:Nat}
theorem R3(h:Gb P t n sz=true):∃e f,P.underlying t=some (.array n e)/\P.info? e=some f/\f.size=sz:=by
 unfold Gb at h;split at h
 ·grind
 ·cases h
variable {e:Nat}{f:TypeInfo}
theorem aiJ(c:P.underlying t=some (.array n e))(ak:P.info? e=some f)(b off:Nat)(k:IntKind){j:Int}(d:0<=j)(h:j<n) :
  (Instr.indexAt t (ptrTo b off) (.int k j)).run P w=.ok (ptrTo b (off+j.toNat*f.size)) w:=by
 simp[Instr.indexAt,asIntOf,run_underlying c,d,h,Go.sizeOf,typeInfo,ak,ni,ptrTo,Instr.sureAddr]
def KC(P:Program)(N:Nat)(o:Oper)(d:Nat)(x:aI)(n sz:Nat)(i:aI):Bool:=cB N o d &&
 (match o.op with|.indexAddr t bx nX=>ds bx x&&ds nX i&&Gb P t n sz|_=>false)
variable {d:Nat}{x:aI}
theorem aiK{i:aI}(h:Rel P gl N g s a w)(u:KC P N o d x n sz i=true)(he:aH gl s (.nQ d x n sz i)=some s'):dR P gl N o g a w s':=by
 simp only[KC,I9]at u;obtain⟨hd,q⟩:=u;split at q
 ·rename_i t v y aA;simp only[I9]at q;obtain⟨⟨ah,ak⟩,hk⟩:=q;obtain⟨e,f,z,A,rfl⟩:=R3 hk;have r:∀b c k(j:Int),a.eval v=ptrTo b c->a.eval y=.int k j->0<=j->j<n->(execOp a.eval o).run P w=.ok (.value (ptrTo b (c+j.toNat*f.size))) w:=by
   intro b c k j B C D E;simp only[execOp,aA,Sem.run_bind,B,C,aiJ z A b c k D E,Result.andThen_ok,Sem.run_pure]
  simp only[aH]at he;split at he
  ·rename_i G c k j ao l;obtain⟨b,cs,m,p,F,H⟩:=q9 h ah ao;split at he
   ·rename_i ae;simp at he;subst he;exact .addr h hd ae.2.2 m p (r _ _ _ _ F (c9 h ak l).jF ae.1 ae.2.1)
   ·cases he
  ·rename_i id c k j ao l;obtain⟨b,m,p⟩:=q9 h ah ao;split at he
   ·rename_i ae;exact .value h hd he (r _ _ _ _ p (c9 h ak l).jF ae.1 ae.2) (.ptr _ _ _ m) (uL _ _)
   ·cases he
  ·rename_i cs k j ao l;obtain⟨b,c,m,p⟩:=q9 h ah ao;split at he
   ·rename_i ae;exact .value h hd he (r _ _ _ _ m (c9 h ak l).jF ae.1 ae.2.1) (.pure _ _ (.db _ _ _ (p.drop _))) (Cx _)
   ·cases he
  ·cases he
 ·cases q
variable {γ:e4}{b off:Nat}
theorem e5.R4{c:AV}{cs:List AV}(h:e5 γ b off (c::cs)):c.cells=[c]:=by
 cases h with
 |cons _ _ _ _ v h1 U i j =>
  cases i<;>first|rfl|simp[Value.oneCell']at U
theorem KD(k:0<sz):∀(n off:Nat)(cs:List AV),cs.length=n*sz->e5 γ b off cs->eI γ b off sz (chunk sz n cs)/\(chunk sz n cs).length=n
 |0,_,_,_,_=>⟨.nil _ _ _,rfl⟩|n+1,off,cs,i,h=>by
  have l:(cs.drop sz).length=n*sz:=by rw[List.length_drop,i,TH];omega
  have j:sz<=cs.length:=by rw[i,TH];omega
  obtain⟨m,U⟩:=KD k n (off+sz) (cs.drop sz) l (h.drop sz);simp only[chunk];refine⟨.cons _ _ _ _ _ ?_ ?_ m,by simp[U]⟩
  ·split
   ·rename_i e;subst e
    match cs,j,h with
    |c::cs,_,h=>simp[h.R4]
   ·simp[AV.cells];omega
  ·split
   ·rename_i e;subst e
    match cs,j,h with
    |c::cs,_,h=>simp only[List.headD_cons,h.R4];exact h.take 1
   ·exact h.take sz
theorem aiL{bh ak:Option Value}{i j:Nat}(c:P.underlying t=some (.array n e))(h:P.info? e=some f)
  (ae:(Instr.sliceBounds false n n bh ak none).run P w=.ok (i,j,n) w) :
  (Instr.sliceAt t (ptrTo b off) bh ak none).run P w=.ok (.slice (some (if n=i then⟨b,off,none⟩else(⟨b,off,none⟩:Addr).add (i*f.size))) (j-i) (n-i)) w:=by
 simp only[Instr.sliceAt,Sem.run_bind,run_underlying c,Result.andThen_ok,Instr.sureAddr,ptrTo,Sem.run_pure,ae,Go.sizeOf,typeInfo,run_program,h]
def KE(P:Program)(N:Nat)(o:Oper)(d:Nat)(x:aI)(n sz:Nat)(bh ak:Option aI):Bool:=cB N o d&&decide (0<sz) &&
 (match o.op with|.slice t bx wG nk none=>ds bx x&&wF wG bh&&wF nk ak&&Gb P t n sz|_=>false)
theorem aiM{bh ak:Option aI}(h:Rel P gl N g s a w)(l:KE P N o d x n sz bh ak=true)(he:aH gl s (.qg d x n sz bh ak)=some s'):dR P gl N o g a w s':=by
 simp only[KE,I9,decide_eq_true_eq]at l;obtain⟨⟨hd,p⟩,k⟩:=l;split at k
 ·rename_i t J K L aA;simp only[I9]at k;obtain⟨⟨⟨ah,q⟩,r⟩,hk⟩:=k;obtain⟨e,f,u,y,rfl⟩:=R3 hk;simp only[aH]at he;split at he
  ·rename_i cs ao;obtain⟨b,off,z,A⟩:=q9 h ah ao;split at he
   ·rename_i B;split at he
    ·rename_i i j C D;split at he
     ·rename_i ae;obtain⟨E,U,F⟩:=ae;obtain⟨G,c⟩:=KD p n off cs B.1 A;have H:=Cy (P:=P) (w:=w) (cap:=n) h false q r C D E U F (Nat.le_refl _);refine .value h hd he (v:=.slice (some (if n=i.toNat then⟨b,off,none⟩else(⟨b,off,none⟩:Addr).add (i.toNat*f.size))) (j.toNat-i.toNat) (n-i.toNat)) ?_ ?_ (cP.none _ _)
      ·simp only[execOp,aA,Option.map_none,Sem.run_bind,z,aiL u y H,Result.andThen_ok,Sem.run_pure]
      ·have m:(((chunk f.size n cs).take j.toNat).drop i.toNat).length=j.toNat-i.toNat:=by simp[c];omega
       by_cases O:j.toNat=i.toNat
       ·exact .pure _ _ (.J6 (by apply aHW;omega) (by omega) (by simp))
       ·have cc:¬n=i.toNat:=by omega
        simp only[cc,if_false,ni];exact .pure _ _ (.Af m.symm (by rw[m];unfold M;omega) (by omega) ((G.take _).drop _))
     ·cases he
    ·cases he
   ·cases he
  ·cases he
 ·cases k
end
section
variable {P:Program}{gl:cp}{N:Nat}{g g':bo}{s s':an}{a:Act}{w w':World}{o:Oper}
variable {e sz:Nat}
theorem Rel.KF(h:Rel P gl N g s a w){cs:List AV}{ws:List Value}(p:jE P e sz=true)(q:cr g cs ws)(r:∀v∈ws,v.oneCell'=true)(u:∀c∈cs,cP c)(x:ws.length<=maxLen*sz) :
  ∃g',ef g w g' (w.alloc (.cells ws.toArray e))/\Rel P gl N g' { s with heap:=s.heap++[ax.buf e cs,.dead] } a (w.alloc (.cells ws.toArray e))/\g'.b4 s.heap.length=some w.heap.size /\
   g'.b4 (s.heap.length+1)=some ws.length:=by
 obtain⟨y,l⟩:=h.alloc (.cells ws.toArray e) (.bA s.heap.length);have ae:=iK.new (P:=P) (ow:=.bA s.heap.length) (oc:=.oc s.heap.length) (ty:=e) h.uP q r u;let f:bo:={ g.iO w.heap.size (.bA s.heap.length)with b4:=fun id=>if id=s.heap.length then some w.heap.size else if id=s.heap.length+1 then some ws.length else g.b4 id }
 have j:GhLe (g.iO w.heap.size (.bA s.heap.length)) f:=⟨fun _ _ _ h=>h,fun id b m=>by
  have:=h.fE id b m;simp[f,show id≠s.heap.length by omega,show id≠s.heap.length+1 by omega];exact m⟩
 have hk:∀K,Kept (g.iO w.heap.size (.bA s.heap.length)) (w.alloc (.cells ws.toArray e)) f (w.alloc (.cells ws.toArray e)) K:=fun K b _=>⟨rfl,rfl,fun _=>rfl⟩;refine⟨f,y.trans ⟨j,fun b ae=>⟨ae,rfl,fun _=>rfl⟩,Nat.le_refl _,rfl,rfl⟩,?_,by simp[f],by simp[f]⟩;refine⟨l.sorted,l.size,l.defers,fun t e he=>(l.env t e he).kept j (hk fun _=>True) trivial trivial (fun _=>trivial),fun id bA d=>?_,l.ff,l.own,l.gz,fun id b m=>?_⟩
 ·simp only at d;by_cases A:id<s.heap.length
  ·rw[aB8 A]at d;exact(l.heap id bA d).kept j (hk fun _=>True) (fun _=>trivial) (fun _=>trivial)
  ·rw[aID (by omega)]at d;by_cases n:id=s.heap.length
   ·subst n;simp at d;subst d;obtain⟨i,z,B,C,G,D,H,E⟩:=qm p;exact⟨w.heap.size,ws.length,by simp[f],by simp[f],ae.kept j (hk fun _=>True) trivial (fun _=>trivial),⟨ws.toArray,heap_alloc_new w _,by simp⟩,i,z,B,by omega,D,by omega,E,by rw[C];exact x⟩
   ·obtain⟨k,hk⟩:∃k,id-s.heap.length=k+1:=⟨id-s.heap.length-1,by omega⟩;rw[hk]at d;cases k with
    |zero=>simp at d;subst d;trivial|succ k=>simp at d
 ·simp only[List.length_append,List.length_cons,List.length_nil];by_cases n:id=s.heap.length
  ·omega
  ·by_cases F:id=s.heap.length+1
   ·omega
   ·simp[f,n,F]at m;have:=h.fE id b m;omega
theorem KG{α:Type}(z:List α)(b:0<z.length):∀(n i:Nat),i<n*z.length->(aB5 n z).flatten[i]?=z[i % z.length]?
 |0,i,h=>by simp at h|n+1,i,h=>by
  rw[List.replicate_succ,List.flatten_cons];by_cases ak:i<z.length
  ·rw[aB8 ak,Nat.mod_eq_of_lt ak]
  ·rw[aID (by omega),KG z b n (i-z.length) (by rw[TH]at h;omega)];congr 1
   rw[<-Nat.mod_eq_sub_mod (by omega)]
def sn(m:Nat)(z:Array Value):Array Value:=(Array.range m).map ((if m=0 then #[]else z)[· % (if m=0 then #[]else z).size]!)
theorem aiN{t e:TypeId}{i:TypeInfo}{z:Value}{k k':IntKind}{n:Int}(d:P.underlying t=some (.slice e))(ak:P.info? e=some i)(f:i.zero=some z)
  (ae:i.bytes<=128)(b:0<=n)(h:n<=M) :
  (Instr.makeSlice t (.int k n) (.int k' n)).run P w=.ok (.slice (some ⟨w.heap.size,0,none⟩) n.toNat n.toNat) (w.alloc (.cells (sn (n.toNat*i.size) z.cells) e)):=by
 have j:=wrap_small b h;have p:(M:Int)=1099511627776:=rfl;have q:((i.bytes:Nat):Int)*n<=128*1099511627776:=by
  have U:((i.bytes:Nat):Int)*n<=128*n:=Int.mul_le_mul_of_nonneg_right (by omega) b;omega
 have l:¬(((i.bytes:Nat):Int)*n>2 ^ 48):=by grind
 have r:n.toNat*i.bytes<=roomBytes:=by
  have:((n.toNat*i.bytes:Nat):Int)=((i.bytes:Nat):Int)*n:=by grind
  have u:roomBytes=140737488355328:=by decide
  omega
 have m:¬(n<0):=by omega
 simp only[Instr.makeSlice,Sem.run_bind,run_underlying d,Result.andThen_ok,asInt,asIntOf,Sem.run_pure,typeInfo,run_program,ak,j];simp only[m,l,decide_false,Bool.or_false,Bool.false_eq_true,if_false,Int.lt_irrefl];unfold sn;by_cases c:n.toNat*i.size=0
 ·simp[askRoom,show ¬n.toNat*i.bytes>roomBytes by omega,Go.sizeOf,typeInfo,ak,c,newRow,newObj,Sem.run]
 ·simp[askRoom,show ¬n.toNat*i.bytes>roomBytes by omega,Go.sizeOf,typeInfo,ak,c,newRow,newObj,Sem.run,zeroValue,f]
theorem aiO{m:Nat}{z:Array Value}(b:0<z.size){i:Nat}(ak:i<m):(sn m z)[i]?=z[i % z.size]?:=by
 have hm:¬m=0:=by omega
 have c:i % z.size<z.size:=Nat.mod_lt _ b;simp[sn,hm,ak,c]
def KH(P:Program)(N:Nat)(o:Oper)(d e:Nat)(z:List AV)(x:aI):Bool:=cB N o d &&
 (match o.op with|.makeSlice t bx gR=>ds bx x&&ds gR x&&yj P t e z.length&&yh P e z|_=>false)
variable {d:Nat}
theorem aiP{z:List AV}{x:aI}(h:Rel P gl N g s a w)(f:KH P N o d e z x=true)(he:aH gl s (.r7 d e z x)=some s'):dR P gl N o g a w s':=by
 simp only[KH,I9]at f;obtain⟨hd,r⟩:=f;split at r
 ·rename_i t bx gR aA;simp only[I9]at r;obtain⟨⟨⟨ah,O⟩,hk⟩,Q⟩:=r;obtain⟨p,E⟩:=CG hk;obtain⟨i,b,F,G,R,H,S,T⟩:=qm E;obtain⟨nX,v,A,B,U,V,W⟩:=Ah (g:=g) Q;rw[F]at A;simp at A;subst A;rw[H]at B;simp at B;subst B;simp only[aH]at he;split at he
  ·rename_i k n J;split at he
   ·rename_i ae;obtain⟨X,h1⟩:=ae;have Y:(n:Int)<=M:=by unfold M;omega
    have ex:=(c9 h ah J).jF;have C:=(c9 h O J).jF;have Z:=aiN (P:=P) (w:=w) (k:=k) (k':=k) p F H T X Y;have y:(sn (n.toNat*i.size) b.cells).size=n.toNat*z.length:=by simp[sn,G]
    have lq:(aB5 n.toNat z).flatten.length=n.toNat*z.length:=by simp
    have yn:b.cells.size=z.length:=S;have K:∀j,j<n.toNat*z.length->(sn (n.toNat*i.size) b.cells)[j]?=b.cells[j % z.length]?/\(aB5 n.toNat z).flatten[j]?=z[j % z.length]?:=fun j m=>by
     refine⟨?_,KG z R _ _ m⟩;rw[aiO (by omega) (by rw[G];exact m),yn]
    have hF:cr g (aB5 n.toNat z).flatten (sn (n.toNat*i.size) b.cells).toList:=by
     refine .FR (by rw[aHk,y,lq]) fun j c u f p=>?_;have m:j<n.toNat*z.length:=by grind
     obtain⟨m1,m2⟩:=K j m;rw[m2]at f;rw[aHV,m1]at p;obtain⟨kq,q,D⟩:=U.get.2 _ _ f;rw[aHV,p]at q;simp at q;subst q;exact D
    have lX:∀u∈(sn (n.toNat*i.size) b.cells).toList,u.oneCell'=true:=fun u p=>by
     obtain⟨j,m,KI⟩:=List.getElem_of_mem p;have re:j<n.toNat*z.length:=by rw[<-y];simpa using m
     have:(sn (n.toNat*i.size) b.cells).toList[j]?=some u:=by rw[aeZ m,KI]
     rw[aHV,(K j re).1]at this;exact V u (List.mem_of_getElem? (by rw[aHV];exact this))
    have lr:∀c∈(aB5 n.toNat z).flatten,cP c:=fun c f=>by
     obtain⟨l,aD,L⟩:=aB9.1 f;rw[List.eq_of_mem_replicate aD]at L;exact W c L
    obtain⟨g',q,D,aS,bI⟩:=h.KF E hF lX lr (by rw[aHk,y];exact aIA _ (by unfold maxLen;omega));simp only[cB,I9,beq_iff_eq,decide_eq_true_eq]at hd;refine⟨.slice (some ⟨w.heap.size,0,none⟩) n.toNat n.toNat,w.alloc (.cells (sn (n.toNat*i.size) b.cells) e),g',.inl ?_,by simpa using q,?_⟩
    ·simp only[execOp,aA,Sem.run_bind,ex,C,Z,Result.andThen_ok,Sem.run_pure]
    ·rw[hd.1];have:=D.put he hd.2 (v:=.slice (some ⟨w.heap.size,0,none⟩) n.toNat n.toNat) (.bs _ _ _ _ _ _ _ aS bI (by rw[Ja];exact(aHk▸y).symm) (Nat.le_refl _)) (.lU fun _ _ _ h=>by simp at h);simpa using this
   ·cases he
  ·cases he
 ·cases r
def KJ(P:Program)(N:Nat)(o:Oper)(d e0 sz:Nat)(xs:List aI):Bool:=CN P N o d e0 sz xs
theorem aiR{xs:List AV}{us:List Value}(h:cr g xs us)(ah:∀x∈xs,x.cells.length=sz/\x.cells.all AV.one=true) :
  cr g (xs.map fun v:AV=>v.cells.map AV.aW).flatten (us.map (·.cells.toList)).flatten/\(∀u∈(us.map (·.cells.toList)).flatten,u.oneCell'=true)/\(∀u∈us,u.cells.size=sz)/\(us.map (·.cells.toList)).flatten.length=us.length*sz:=by
 induction us generalizing xs with
 |nil=>cases h;exact⟨.nil,by simp,by simp,by simp⟩|cons u us ih=>cases h with
  |cons x xs _ _ h1 U =>
   obtain⟨c,k,l,m⟩:=ih U fun y f=>ah y (by simp[f]);obtain⟨n,i⟩:=ah x (by simp);obtain⟨b,p⟩:=h1.cells i;have q:u.cells.size=sz:=by have:=b.get.1;simp at this;omega
   refine⟨?_,fun v j=>?_,fun v j=>?_,?_⟩
   ·simp only[LW,List.flatten_cons];exact b.aW.append c
   ·grind
   ·grind
   ·grind
theorem aiS{e0:Nat}{xs:List aI}(h:Rel P gl N g s a w)(f:KJ P N o d e0 sz xs=true)(he:aH gl s (.r6 d e0 sz xs)=some s'):dR P gl N o g a w s':=by
 simp only[KJ,CN,Ai,I9]at f;obtain⟨⟨hd,j⟩,k⟩:=f;split at j
 ·rename_i t n m aA;simp only[I9,beq_iff_eq]at j;obtain⟨⟨⟨rfl,E⟩,p⟩,hk⟩:=j;unfold F4 at hk;split at hk
  ·rename_i e u;simp only[I9,decide_eq_true_eq]at hk;obtain⟨y,gJ⟩:=hk;obtain⟨i,z,F,bY,c5,G,gK,hQ⟩:=qm y;have H:e=e0:=by
    unfold KA at k;rw[aA]at k;simp only[u,beq_iff_eq]at k;exact k
   subst H;obtain⟨vs,J,q⟩:=bind_some he;split at q
   ·rename_i ae;simp only[I9,decide_eq_true_eq,fM,beq_iff_eq]at ae;obtain⟨⟨A,K⟩,sl⟩:=ae;have r:=uD h p J;have B:(m.map fun(i,x)=>(i,a.eval x))=(((m.toList.map (·.2)).map a.eval).zipIdx.map fun(v,i)=>(i,v)).toArray:=by
     rw[<-Kq E a.eval];apply Array.ext';simp
    have C:xs.length=((m.toList.map (·.2)).map a.eval).length:=by
     simp only[jh,I9,beq_iff_eq]at p;rw[ae0];exact p.1.symm
    generalize (m.toList.map (·.2)).map a.eval=us at r B C;have b:=r.get.1;obtain⟨L,O,Q,D⟩:=aiR r fun x ah=>⟨(A x ah).1,by rw[fM];exact(A x ah).2⟩;have R:=F5 (P:=P) (w:=w) u F G (by omega) (fun v S=>by rw[Q v S];omega) (by
     have T:us.length<=1000:=by rw[b];exact K
     calc _<=1000*1000:=Nat.mul_le_mul T (by omega)
      _<=2 ^ 24:=by decide)
    obtain⟨g',U,V,W,X⟩:=h.KF y L O (fun c f=>by
     obtain⟨l,Y,Z⟩:=aB9.1 f;obtain⟨v,_,rfl⟩:=List.mem_map.1 Y;exact tl c Z) (by rw[D,b];exact aIA _ (by unfold maxLen;omega))
    simp only[cB,I9,beq_iff_eq,decide_eq_true_eq]at hd;refine⟨.slice (some ⟨w.heap.size,0,none⟩) us.length us.length,_,g',.inl ?_,U,?_⟩
    ·simp only[execOp,aA,Sem.run_bind];rw[B,C,R];rfl
    ·rw[hd.1];have rf:bb g' (.bs s.heap.length 0 vs.length sz) (.slice (some ⟨w.heap.size,0,none⟩) us.length us.length):=by
      rw[b];exact bb.bs _ 0 _ _ _ _ vs.length W X (by rw[D,Ja,b]) (Nat.le_refl _)
     exact V.put q hd.2 rf (.lU fun _ _ _ h=>by simp at h)
   ·cases q
  ·cases hk
 ·cases j
end
end AM
