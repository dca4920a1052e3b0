/- An abstract machine, and what of the given program it does, part 8. Conditions: none. -/
import Derived.Test.YtanepioeppghhaaGreatDoorAm6
import Derived.Lib.UnsafeStr
set_option linter.unusedVariables false
namespace AM
open Nat renaming zero_add -> aKg,zero_le -> aKk
open Bool renaming and_eq_true -> aKh
open List renaming map_cons -> aKi,map_nil -> aKj,length_nil -> aKl,eq_nil_of_length_eq_zero -> aKm,getElem?_take -> aKn,getElem?_eq_some_iff -> aKo
open Go
section
variable {P:Program}{gl:cp}{N:Nat}{g g':bo}{s s':an}{a:Act}{w w':World}{o:Oper}
def CY:Option Operand->Bool
 |some (.const (.int _ 0))=>true|_=>false
theorem aGC{x:Option Operand}(h:CY x=true):∃k,x=some (.const (.int k 0)):=by
 unfold CY at h;split at h
 ·exact⟨_,rfl⟩
 ·cases h
def aGD(P:Program)(N:Nat)(o:Oper)(d:Nat)(x:aI)(sz:Nat):Bool:=cB N o d &&
 (match o.op with
  |.slice t bx bh ak kl=>ds bx x&&uM P t sz&&(bh.isNone||CY bh)&&CY ak&&CY kl|_=>false)
theorem ajC{k:IntKind}{y:Nat}{b:BoundsCode}:(Instr.sliceBound (.int k 0) y b).run P w=.ok 0 w:=by
 simp[Instr.sliceBound,asIntOf]
variable {t e:TypeId}
theorem aGE{f:TypeInfo}{base:Option Addr}{len cap:Nat}{bh:Option Value}{k' b:IntKind}(c:bh=none\/∃k,bh=some (.int k 0))(d:P.underlying t=some (.slice e))(h:P.info? e=some f) :
  (Instr.sliceAt t (.slice base len cap) bh (some (.int k' 0)) (some (.int b 0))).run P w=.ok (.slice base 0 0) w:=by
 rcases c with rfl|⟨k,rfl⟩ <;>
  simp[Instr.sliceAt,Instr.slice,run_underlying d,Instr.sliceBounds,ajC,Go.sizeOf,typeInfo,h]
variable {sz:Nat}
theorem aGF{t:Nat}(h:uM P t sz=true):∃e f,P.underlying t=some (.slice e)/\P.info? e=some f/\f.size=sz:=by
 unfold uM at h;split at h
 ·rename_i e b;split at h
  ·rename_i f c;exact⟨e,f,b,c,by simpa using h⟩
  ·cases h
 ·cases h
theorem aGG(sz:Nat):cP (.lb sz):=fun _ _ _ h=>by simp at h
variable {v:Value}
theorem bb.aGH(h:bb g (.lb sz) v):∃base,v=.slice base 0 0:=by
 cases h with
 |pure _ _ h=>cases h|lb _ base=>exact⟨base,rfl⟩
variable {ty:TypeId}{i:TypeInfo}
theorem aGI{z:Value}(p:P.underlying t=some (.slice e))(ak:P.info? e=some i)(q:i.zero=some z)(y:z.cells.size=i.size)
  (base:Option Addr){ad:Addr}{m c:Nat}{news:List Value}(f:news.length=m*i.size)
  (r:∀j u,news[j]?=some u->w.cell? (ad.add j)=some u)(hm:0<m)(A:m<=M)(ae:i.bytes<=128) :
  ∃n w',(Builtin.append_ #[t,t] ty #[.slice base 0 0,.slice (some ad) m c]).run P w=.ok n w'/\w'.ownsRow 0 e i.size n m news /\
   n.ownBlock=some w.heap.size/\w.heap.size<w'.heap.size/\(∀k,k<w.heap.size->w'.heap[k]?=w.heap[k]?)/\((w'.os,w'.tape)=(w.os,w.tape)/\w'.output=w.output):=by
 unfold M at A;have B:m*i.bytes<=140737488355328:=by
  calc m*i.bytes<=1099511627776*128:=Nat.mul_le_mul (by omega) ae
   _=140737488355328:=by decide
 have C:m<=maxLen:=by unfold maxLen;omega
 have d:(w.drew.alloc (.cells (#[]++news.toArray++Builtin.zeroCells z.cells (grownCap w m 0 e-m)) e)).ownsRow 0 e i.size
    (.slice (some ⟨w.heap.size,0,none⟩) m (grownCap w m 0 e)) m news:=by
  have D:=grownCap_ge w m 0 e;have E:grownCap w m 0 e<=maxLen:=grownCap_le_maxLen w m 0 e C;refine⟨f,.inr ⟨w.heap.size,_,_,rfl,aKk _,heap_alloc_new w.drew _,D,E,?_,?_⟩⟩
  ·simp only[Array.empty_append,Array.size_append,List.size_toArray,size_zeroCells,y,f,<-Nat.add_mul];congr 1;omega
  ·simp only[Array.empty_append,Array.toList_append];rw[<-f];exact List.take_left
 have x:∀k,k<w.heap.size->(w.drew.alloc (.cells (#[]++news.toArray++Builtin.zeroCells z.cells (grownCap w m 0 e-m)) e)).heap[k]?=w.heap[k]?:=fun k hk=>heap_alloc_old w.drew _ (h:=hk);cases base with
 |none =>
  have l:=run_append_nil (P:=P) w t ty e i z p ak q ad m c news f r hm (by omega) (by omega);rw[show(news.toArray++Builtin.zeroCells z.cells (grownCap w m 0 e-m))=(#[]++news.toArray++Builtin.zeroCells z.cells (grownCap w m 0 e-m)) by simp]at l;exact⟨_,_,l,d,rfl,by rw[nm];show w.heap.size<w.heap.size+1;omega,x,rfl,rfl⟩
 |some b =>
  have l:=run_append_grow (P:=P) w t ty e i z p ak q b 0 0 [] (by simp) (by simp) ad m c news f r (by omega) (by omega) (growslice_fits (by omega) (by simpa using B));simp only[aKg]at l;exact⟨_,_,l,d,rfl,by rw[nm];show w.heap.size<w.heap.size+1;omega,x,rfl,rfl⟩
theorem aGJ(d:P.underlying t=some (.slice e))(ak:P.info? e=some i)(base b:Option Addr)(c:Nat) :
  (Builtin.append_ #[t,t] ty #[.slice base 0 0,.slice b 0 c]).run P w=.ok (.slice base 0 0) w:=by
 cases base<;>cases b<;>simp[Builtin.append_,run_underlying d,Go.sizeOf,typeInfo,ak,Builtin.lenOf,Builtin.firstCells,loadCells,loadCellsFrom,storeCells]
def aGK(P:Program)(N:Nat)(o:Oper)(d u:Nat)(x:aI)(e sz:Nat):Bool:=Ga P N o d u x e sz
def Ld(N:Nat)(o:Oper)(d:Nat)(x:aI):Bool:=cB N o d&&(match si o.op with|some (.unsafeSliceData,[bx],_)=>ds bx x|_=>false)
variable {d:Nat}{x:aI}
theorem ajE(h:Rel P gl N g s a w)(j:Ld N o d x=true)(he:aH gl s (.r8 d x)=some s'):dR P gl N o g a w s':=by
 simp only[Ld,aKh]at j;obtain⟨hd,c⟩:=j;split at c
 ·rename_i r bu aA;obtain⟨u,l⟩:=uH (o:=o) aA rfl a.eval;simp only[aH]at he;split at he
  ·rename_i id off n sz f;split at he
   ·rename_i y;obtain⟨b,k,cap,m,z,A,B,p⟩:=(c9 h c f).sj;refine .value h hd he ?_ (.ptr _ _ _ m) (uL _ _);rw[l];simp only[builtin,aKi,aKj,p,Sem.run_bind,Lib.run_unsafeSliceData_row w _ _ _ _ _ (show cap≠0 by omega),Result.andThen_ok,Sem.run_pure]
   ·cases he
  ·rename_i sz f;have q:=(c9 h c f).tk;refine .value h hd he ?_ (.pure _ _ .eP) (fun _ _ _ h=>by simp at h);rw[l];simp only[builtin,aKi,aKj,q,Sem.run_bind,Lib.run_unsafeSliceData_nil,Result.andThen_ok,Sem.run_pure]
  ·cases he
 ·cases c
def Le(P:Program)(N:Nat)(o:Oper)(d e:Nat)(x n:aI):Bool:=cB N o d &&
 (match si o.op with|some (.unsafeString,[bx,n'],[Gn,_])=>ds bx x&&ds n' n&&P.cellsOf e==1&&(match P.underlying Gn with|some (.pointer b3)=>b3==e|_=>false)|_=>false)
theorem SB:∀{cs:List AV}{b:List UInt8}{us:List Value},bytesOf cs=some b->cr g cs us->us=b.map fun c=>.int .u8 c.toNat
 |[],b,us,h,j=>by simp[bytesOf]at h;subst h;cases j;rfl|c::cs,b,us,h,j=>by
  cases j with
  |cons _ _ v vs h1 U =>
   unfold bytesOf at h;split at h
   ·rename_i f;cases f
   ·rename_i n r f;simp at f;obtain⟨rfl,rfl⟩:=f;split at h
    ·rename_i p;rw[Option.map_eq_some_iff]at h;obtain⟨q,k,rfl⟩:=h;have l:=h1.jF;have m:=SB k U;subst l m;simp only[aKi,List.cons.injEq,and_true];congr 1
     have:(UInt8.ofNat n.toNat).toNat=n.toNat:=by
      rw[UInt8.toNat_ofNat'];exact Nat.mod_eq_of_lt (by omega)
     rw[this];omega
    ·cases h
   ·cases h
variable {b n:Nat}
theorem ajF(c:n≠0)(w:World)(k:Nat)(hk:k≠b):(w.freeze ⟨b,0,none⟩ n).heap[k]?=w.heap[k]?:=by
 simp[World.freeze,c,Array.getElem?_modify,Ne.symm hk]
theorem ajG(w:World):(w.freeze ⟨b,0,none⟩ n).heap.size=w.heap.size:=by
 unfold World.freeze;split<;>simp
theorem Rel.dead(h:Rel P gl N g s a w)(id:Nat):Rel P gl N g { s with heap:=s.heap.set id .dead } a w:=by
 refine⟨h.sorted,h.size,h.defers,h.env,fun f bA c=>?_,h.ff,h.own,h.gz,fun i b ak=>by simpa using h.fE i b ak⟩;simp only at c;rw[List.getElem?_set]at c;split at c
 ·split at c
  ·simp at c;subst c;trivial
  ·cases c
 ·exact h.heap f bA c
theorem Rel.ajH(h:Rel P gl N g s a w){id:Nat}(r:s.heap[id]?=some .dead)(ae:g.b4 id=some b)(aA:g.bD b=.bA id)(u:∀off,g.γ b off=none)(hm:∀arr n,w.heap[b]?≠some (.map arr n))(az:w'.heap.size=w.heap.size)(f:∀k,k≠b->w'.heap[k]?=w.heap[k]?)(m:(w'.os,w'.tape)=(w.os,w.tape)/\w'.output=w.output) :
  ef g w g w'/\Rel P gl N g s a w':=by
 have j:GhLe g g:=⟨fun _ _ _ h=>h,fun _ _ h=>h⟩;have hk:Kept g w g w' fun o=>o≠.bA id:=fun k hk=>⟨rfl,f k (fun e=>hk (by rw[e,aA])),fun _=>rfl⟩;refine⟨⟨j,fun k hk=>⟨hk,f k (fun e=>by rw[e,aA]at hk;cases hk),fun _=>rfl⟩,by rw[az];exact Nat.le_refl _,m.1,m.2⟩,?_⟩;refine⟨h.sorted,h.size,h.defers,fun t e he=>(h.env t e he).kept j hk (by simp) (by simp) (by simp),fun p bA c=>?_,fun k off v l=>?_,fun k hk=>by rw[az];exact h.own k hk,h.gz,h.fE⟩
 ·by_cases e:p=id
  ·subst e;rw[r]at c;simp at c;subst c;trivial
  ·exact(h.heap p bA c).beside j hk e ae hm (by simp) (by simp)
 ·have q:=h.ff k off v l;have y:k≠b:=by rintro rfl;rw[u]at l;cases l
  unfold World.cell? at q ⊢;rw[f k y];exact q
theorem ajI{e:Nat}{n:aI}(h:Rel P gl N g s a w)(E:Le P N o d e x n=true)(he:aH gl s (.r9 d e x n)=some s'):dR P gl N o g a w s':=by
 simp only[Le,aKh]at E;obtain⟨hd,f⟩:=E;split at f
 ·rename_i bx n' F it aA;obtain⟨wD,G⟩:=uH (o:=o) aA rfl a.eval;simp only[aKh,beq_iff_eq]at f;obtain⟨⟨⟨ah,H⟩,r⟩,p⟩:=f;split at p
  ·rename_i b3 ao;simp at p;subst p;simp only[aH]at he;split at he
   ·rename_i id m u z;split at he
    ·rename_i S cs J;split at he
     ·rename_i ae;obtain⟨rfl,K,h1,U⟩:=ae;obtain⟨l,T,he⟩:=bind_some he;obtain⟨b,L,V⟩:=(c9 h ah u).sh;have hm:=(c9 h H z).jF;obtain⟨bU,k,A,wV,O,⟨arr,B,cO⟩,fj⟩:=h.heap _ _ J;rw[L]at A;simp at A;subst A;obtain⟨ws,W,C,fW,X⟩:=O.cells (off:=0) (n:=m.toNat);simp only[List.drop_zero]at W C;have Q:=SB T C;have c:l.length=m.toNat:=by
       have:=C.get.1;rw[Q]at this;simp at this;omega
      have Y:(m:Int)=l.length:=by omega
      obtain⟨R,SC,D,z2,Z,z4,_⟩:=O;rw[B]at D;simp at D;obtain⟨rfl,rfl⟩:=D;have hb:∀j y,l[j]?=some y->w.cell? ((⟨b,0,none⟩:Addr).add j)=some (.int .u8 y.toNat):=fun j y a1=>by
       rw[ni,aKg];have:=X j (.int .u8 y.toNat) (by rw[Q];simp[a1]);simpa using this
      have aw:=Lib.run_unsafeString_row (P:=P) w F it o.type S ao r b arr.size (by simp[World.shape?,B]) l (by intro e;subst e;simp at c;omega) (by omega) (by unfold M at U;omega) hb;have mD:l.length≠0:=by omega
      have Lf:=h.dead id;have sk:id<s.heap.length:=(aKo.1 J).1;obtain⟨t1,t2⟩:=Lf.ajH (w':=w.freeze ⟨b,0,none⟩ l.length) (id:=id) (b:=b) (by simp[sk]) L Z z4 (by simp[B]) (ajG w) (fun k hk=>ajF mD w k hk) (by unfold World.freeze;split<;>exact⟨rfl,rfl⟩);simp only[cB,aKh,beq_iff_eq,decide_eq_true_eq]at hd;refine⟨.string ⟨l.toArray⟩,_,g,.inl ?_,t1,?_⟩
      ·rw[G];simp only[builtin,aKi,aKj,V,hm,Y,ptrTo,Sem.run_bind,aw,Result.andThen_ok,Sem.run_pure]
      ·rw[hd.1];exact t2.put he hd.2 (.pure _ _ (.str _ (by omega))) (yc _).gb
     ·cases he
    ·cases he
   ·rename_i m u z;split at he
    ·rename_i K;subst K;have q:=(c9 h ah u).Cs;have hm:=(c9 h H z).jF;refine .value h hd he ?_ (.pure _ _ (.str [] (by simp))) (yc _);rw[G];simp only[builtin,aKi,aKj,q,hm,Sem.run_bind,Lib.run_unsafeString_none w F it,Result.andThen_ok,Sem.run_pure];rfl
    ·cases he
   ·cases he
  ·cases p
 ·cases f
variable {fn:Func}
theorem ajK(h:fn.name= "internal/abi.NoEscape"):Extern.find fn=some Extern.AbiNoEscape.same/\((Extern.allNextRows.lookup fn.name).map (· fn.params fn.resultTypes))=none:=by
 have c:Extern.allGenericRows.lookup "internal/abi.NoEscape"=none:=by kernel_rfl
 have U:Extern.allTypedRows.lookup "internal/abi.NoEscape"=none:=by kernel_rfl
 have f:Extern.allRows.lookup "internal/abi.NoEscape"=some Extern.AbiNoEscape.same:=by kernel_rfl
 have j:Extern.allNextRows.lookup "internal/abi.NoEscape"=none:=by kernel_rfl
 refine⟨?_,by rw[h,j];rfl⟩;simp only[Extern.find,h,c,U,f];rfl
theorem ajL(h:fn.name= "internal/bytealg.abigen_runtime_cmpstring"):Extern.find fn=some Extern.BytealgCompare.compare/\((Extern.allNextRows.lookup fn.name).map (· fn.params fn.resultTypes))=none:=by
 have c:Extern.allGenericRows.lookup "internal/bytealg.abigen_runtime_cmpstring"=none:=by kernel_rfl
 have U:Extern.allTypedRows.lookup "internal/bytealg.abigen_runtime_cmpstring"=none:=by kernel_rfl
 have f:Extern.allRows.lookup "internal/bytealg.abigen_runtime_cmpstring"=some Extern.BytealgCompare.compare:=by kernel_rfl
 have j:Extern.allNextRows.lookup "internal/bytealg.abigen_runtime_cmpstring"=none:=by kernel_rfl
 refine⟨?_,by rw[h,j];rfl⟩;simp only[Extern.find,h,c,U,f];rfl
def Lg(P:Program)(f:Nat)(du:String):Bool:=match P.funcs[f]? with
 |some fn=>fn.name==du&&fn.body.isNone&&(Extern.allNextRows.lookup fn.origin).isNone|none=>false
variable {f:Nat}{du:String}
theorem ajM{args:Array Value}{e:Array Value->Sem Value}(h:Lg P f du=true)(c:(du== "runtime.NumGoroutine")=false)
  (j:∀fn:Func,fn.name=du->Extern.find fn=some e/\((Extern.allNextRows.lookup fn.name).map (· fn.params fn.resultTypes))=none)(k:(e args).run P w=.ok v w) :
  (callFunc f args).run P w=.ok (.value v) w:=by
 unfold Lg at h;split at h
 ·rename_i fn l;simp only[aKh,beq_iff_eq,Option.isNone_iff_eq_none]at h;obtain⟨⟨U,m⟩,p⟩:=h;obtain⟨q,r⟩:=j fn U;have u:Extern.findNext fn=none:=by
   simp only[Extern.findNext,r,p];rfl
  simp only[callFunc,Sem.run_bind,run_program,Result.andThen_ok,l,U,c,Bool.false_eq_true,if_false];simp only[m,Option.isNone_none,if_true,Sem.run_bind,run_mark,Result.andThen_ok,u,q,k,Sem.run_pure]
 ·cases h
def Az(P:Program)(N:Nat)(o:Oper)(d f:Nat)(du:String)(xs:List aI):Bool:=cB N o d&&Lg P f du &&
 (match o.op with|.call c=>(match c.callee with|.value (.func ib)=>ib==f&&jh c.args.toList xs|_=>false)|_=>false)
theorem SD{xs:List aI}{e:Array Value->Sem Value}(j:Az P N o d f du xs=true)(k:(du== "runtime.NumGoroutine")=false)
  (l:∀fn:Func,fn.name=du->Extern.find fn=some e/\((Extern.allNextRows.lookup fn.name).map (· fn.params fn.resultTypes))=none) :
  cB N o d=true/\∃ys:List Operand,jh ys xs=true/\∀v,(e (ys.map a.eval).toArray).run P w=.ok v w->(execOp a.eval o).run P w=.ok (.value v) w:=by
 simp only[Az,aKh]at j;obtain⟨⟨hd,ah⟩,h⟩:=j;refine⟨hd,?_⟩;split at h
 ·rename_i c aA;split at h
  ·rename_i u m;simp only[aKh,beq_iff_eq]at h;obtain⟨rfl,p⟩:=h;refine⟨c.args.toList,p,fun v q=>?_⟩;have r:(List.map a.eval c.args.toList).toArray=c.args.map a.eval:=by apply Array.ext';simp
   simp only[execOp,aA,resolve,m,Act.eval,Deferred.ofValue,Sem.run_bind,Sem.run_pure,Result.andThen_ok,invoke];refine ajM (v:=v) ah k l ?_;rw[<-r];simpa using q
  ·cases h
 ·cases h
theorem ajN(h:Rel P gl N g s a w)(j:Az P N o d f "internal/abi.NoEscape" [x]=true)(he:aH gl s (.sa d f x)=some s'):dR P gl N o g a w s':=by
 obtain⟨hd,k,c,l⟩:=SD (P:=P) (a:=a) (w:=w) j (by decide) (fun fn h=>ajK h);obtain⟨u,m,U⟩:=bind_some he
 match k,c with
 |[y],c =>
  have p:ds y x=true:=by simpa[jh]using c
  exact .value h hd U (l (a.eval y) rfl) (c9 h p m).aW (cP.aW u)
 |[],c=>simp[jh]at c|_::_::_,c=>simp[jh]at c
theorem ajO:∀(x y:List UInt8),Extern.BytealgCompare.cmp ⟨x.toArray⟩ ⟨y.toArray⟩=dk x y:=by
 have j:∀(x y:List UInt8)(p q:List UInt8),p.length=q.length->
   (match((List.range (min x.length y.length)).find? fun i=>(p++x)[p.length+i]! != (q++y)[q.length+i]!)with
    |some i=>if(p++x)[p.length+i]! < (q++y)[q.length+i]! then(-1:Int)else 1|none=>if x.length<y.length then -1 else if x.length>y.length then 1 else 0)=dk x y:=by
  intro x;induction x with
  |nil =>
   intro y p q _;cases y<;>simp[dk]
  |cons c x ih =>
   intro y p q z;cases y with
   |nil=>simp[dk]|cons d y =>
    have k:min (c::x).length (d::y).length=min x.length y.length+1:=by simp
    rw[k,List.range_succ_eq_map,List.find?_cons];have r:(p++c::x)[p.length+0]! = c:=by simp
    have u:(q++d::y)[q.length+0]! = d:=by simp
    rw[r,u];by_cases m:c=d
    ·subst m;simp only[bne_self_eq_false,List.find?_map];have:=ih y (p++[c]) (q++[c]) (by simp[z]);simp only[List.append_assoc,List.singleton_append,List.length_append,List.length_cons,aKl,aKg]at this;simp only[dk,if_true];rw[<-this];have A:((fun i=>(p++c::x)[p.length+i]! != (q++c::y)[q.length+i]!)∘Nat.succ)=fun i=>(p++c::x)[p.length+1+i]! != (q++c::y)[q.length+1+i]!:=by
      funext i
      simp only[Function.comp];rw[show p.length+i.succ=p.length+1+i by omega,show q.length+i.succ=q.length+1+i by omega]
     rw[A];cases C:(List.range (min x.length y.length)).find? (fun i=>(p++c::x)[p.length+1+i]! != (q++c::y)[q.length+1+i]!)with
     |none=>simp|some i =>
      simp only[Option.map_some];rw[show p.length+i.succ=p.length+1+i by omega,show q.length+i.succ=q.length+1+i by omega]
    ·have:(c != d)=true:=by simp[m]
     simp only[this,dk,m,if_false];simp only[r,u]
 intro x y;have:=j x y [] [] rfl;simp only[List.nil_append,aKl,aKg]at this;rw[<-this];have B:∀(l:List UInt8)(i:Nat),(ByteArray.mk l.toArray)[i]! = l[i]!:=by
  intro l i;by_cases h:i<l.length
  ·rw[getElem!_pos _ _ (by simpa[ByteArray.size]using h),getElem!_pos l i h];rfl
  ·rw[getElem!_neg _ _ (by simpa[ByteArray.size]using h),getElem!_neg l i h]
 simp only[Extern.BytealgCompare.cmp,ByteArray.size,List.size_toArray,B];rfl
theorem ajQ{y:aI}(h:Rel P gl N g s a w)(j:Az P N o d f "internal/bytealg.abigen_runtime_cmpstring" [x,y]=true)(he:aH gl s (.te d f x y)=some s'):dR P gl N o g a w s':=by
 obtain⟨hd,k,c,p⟩:=SD (P:=P) (a:=a) (w:=w) j (by decide) (fun fn h=>ajL h);simp only[aH]at he;split at he
 ·rename_i l m q r
  match k,c with
  |[B,C],c =>
   simp only[jh,List.length_cons,aKl,List.zip_cons_cons,List.zip_nil_right,List.all_cons,List.all_nil,Bool.and_true,aKh,beq_self_eq_true,true_and]at c;obtain⟨u,_⟩:=(c9 h c.1 q).lV;obtain⟨z,_⟩:=(c9 h c.2 r).lV;refine .value h hd he (p (.int .i64 (dk l m)) ?_) (.pure _ _ (.int _ _)) (oI _ _);have A:Extern.BytealgCompare.compare #[.string ⟨l.toArray⟩,.string ⟨m.toArray⟩]=(do pure (goInt (Extern.BytealgCompare.cmp (<-Extern.Bytes.bytesOf (.string ⟨l.toArray⟩)) (<-Extern.Bytes.bytesOf (.string ⟨m.toArray⟩))))):=rfl;simp only[aKi,aKj,u,z,A,Extern.Bytes.bytesOf,Sem.run_bind,Sem.run_pure,Result.andThen_ok,ajO,goInt]
  |[],c=>simp[jh]at c|[_],c=>simp[jh]at c|_::_::_::_,c=>simp[jh]at c
 ·cases he
end
section
variable {P:Program}{gl:cp}{N:Nat}{g g':bo}{s s':an}{a:Act}{w w':World}{o:Oper}
variable {t u ty e:TypeId}{i:TypeInfo}{v:Value}{n:Nat}
theorem ajR{z:Value}(x:P.underlying t=some (.slice e))(y:P.underlying u=some .string)(ak:P.info? e=some i)(D:i.zero=some z)(J:z.cells.size=i.size)(A:i.size=1)
  {xs:List Value}(p:w.ownsRow 0 e i.size v n xs)(s:ByteArray)(hm:0<s.size)(K:n+s.size<=M)(ae:i.bytes<=128) :
  ∃r w',(Builtin.append_ #[t,u] ty #[v,.string s]).run P w=.ok r w'/\w'.ownsRow 0 e i.size r (n+s.size) (xs++Lib.strCells s)/\w.heap.size<=w'.heap.size /\
   ((r.ownBlock=v.ownBlock/\v.ownBlock≠none/\∀k,some k≠v.ownBlock->w'.heap[k]?=w.heap[k]?)\/(r.ownBlock=some w.heap.size/\w.heap.size<w'.heap.size/\∀k,k<w.heap.size->w'.heap[k]?=w.heap[k]?))/\((w'.os,w'.tape)=(w.os,w.tape)/\w'.output=w.output):=by
 unfold M at K;have E:(n+s.size)*i.bytes<=140737488355328:=by
  calc (n+s.size)*i.bytes<=1099511627776*128:=Nat.mul_le_mul (by omega) ae
   _=140737488355328:=by decide
 have L:n+s.size<=maxLen:=by unfold maxLen;omega
 have F:(Lib.strCells s).length=s.size*i.size:=by rw[Lib.strCells_length,A,Nat.mul_one]
 have d:(xs++Lib.strCells s).length=(n+s.size)*i.size:=by rw[List.length_append,p.1,F,Nat.add_mul]
 have c:∀(f:Nat),f<n+s.size ->
   (w.drew.alloc (.cells (xs.toArray++(Lib.strCells s).toArray++Builtin.zeroCells z.cells (grownCap w (n+s.size) f e-(n+s.size))) e)).ownsRow 0 e i.size
    (.slice (some ⟨w.heap.size,0,none⟩) (n+s.size) (grownCap w (n+s.size) f e)) (n+s.size) (xs++Lib.strCells s):=by
  intro f aA;have O:=grownCap_ge w (n+s.size) f e;have B:grownCap w (n+s.size) f e<=maxLen:=grownCap_le_maxLen w (n+s.size) f e L;refine⟨d,.inr ⟨w.heap.size,_,_,rfl,aKk _,heap_alloc_new w.drew _,O,B,?_,?_⟩⟩
  ·simp only[Array.size_append,List.size_toArray,size_zeroCells,J,p.1,F,<-Nat.add_mul];congr 1;omega
  ·grind
 rcases p.2 with⟨rfl,rfl⟩|⟨g,cap,l,rfl,T,G,U,B,Q,V⟩
 ·have ah:xs=[]:=aKm (by simpa using p.1);subst ah;have q:=run_append_nil_string (P:=P) w t u ty e i z x y ak D s hm (by omega) (by simp only[aKg]at E;omega);have H:=c 0 (by omega);simp only[aKg,List.nil_append,Array.empty_append]at H ⊢;have R:(s.data.map fun b=>Value.int .u8 b.toNat)=(Lib.strCells s).toArray:=by
   apply Array.ext';simp[Lib.strCells]
  rw[R]at q;exact⟨_,_,q,H,by rw[nm];show w.heap.size<=w.heap.size+1;omega,.inr ⟨rfl,by rw[nm];show w.heap.size<w.heap.size+1;omega,fun k hk=>heap_alloc_old w.drew _ (h:=hk)⟩,rfl,rfl⟩
 ·by_cases C:n+s.size<=cap
  ·have S:n+s.size<=l.size:=by rw[Q,A,Nat.mul_one];exact C
   have q:=Lib.run_append_room_string (P:=P) w t u ty e i x y ak A g n cap l G s C S;refine⟨_,_,q,⟨d,.inr ⟨g,cap,_,rfl,aKk _,setRow_heap w g l _ e _ G,C,B,?_,?_⟩⟩,by simp,.inl ⟨rfl,by simp[Value.ownBlock],fun k hk=>setRow_other w g k _ (fun e=>hk (by simp[Value.ownBlock,e]))⟩,rfl,rfl⟩
   ·grind
   ·grind
  ·have m:∀j u,xs[j]?=some u->w.cell? ((⟨g,0,none⟩:Addr).add j)=some u:=p.cells (g:=g) rfl;have q:=Lib.run_append_grow_string (P:=P) w t u ty e i z x y ak D ⟨g,0,none⟩ n cap xs p.1 m s (by omega) (by omega) (growslice_fits (by omega) E);exact⟨_,_,q,c cap (by omega),by rw[nm];show w.heap.size<=w.heap.size+1;omega,.inr ⟨rfl,by rw[nm];show w.heap.size<w.heap.size+1;omega,fun k hk=>heap_alloc_old w.drew _ (h:=hk)⟩,rfl,rfl⟩
variable {sz c:Nat}
theorem Rel.Lh(h:Rel P gl N g s a w){nb e:Nat}{cs:List AV}{us:List Value}{cur:Array Value}
  (D:g.bD nb=.none\/∃id,g.bD nb=.bA id/\s.heap[id]?=some .dead/\g.b4 id=some nb/\∀arr n,w.heap[nb]?≠some (.map arr n))
  (K:∀off,g.γ nb off=none)(E:∀k,k≠nb->k<w.heap.size->w'.heap[k]?=w.heap[k]?)(L:w.heap.size<=w'.heap.size)(F:(w'.os,w'.tape)=(w.os,w.tape)/\w'.output=w.output)
  (l:w'.heap[nb]?=some (.cells cur e (0,0)))(y:cur.size=c*sz)(G:∀(j:Nat)u,us[j]?=some u->cur[j]?=some u)(r:cr g cs us)(O:∀u∈us,u.oneCell'=true)(Q:∀x∈cs,cP x)(R:jE P e sz=true)(S:c<=maxLen) :
  ∃g',ef g w g' w'/\Rel P gl N g' { s with heap:=s.heap++[ax.buf e cs,.dead] } a w'/\g'.b4 s.heap.length=some nb/\g'.b4 (s.heap.length+1)=some (c*sz):=by
 have T:nb<w'.heap.size:=(Array.getElem?_eq_some_iff.1 l).1;let d:bo:={ g with bD:=fun k=>if k=nb then .bA s.heap.length else g.bD k,b4:=fun id=>if id=s.heap.length then some nb else if id=s.heap.length+1 then some (c*sz)else g.b4 id }
 have m:GhLe g d:=⟨fun _ _ _ h=>h,fun id b q=>by
  have:=h.fE id b q;simp[d,show id≠s.heap.length by omega,show id≠s.heap.length+1 by omega];exact q⟩
 have A:∀k,k≠nb->g.bD k≠.none->d.bD k=g.bD k/\w'.heap[k]?=w.heap[k]?/\∀o,d.γ k o=g.γ k o:=fun k hk V =>
  ⟨by simp[d,hk],E k hk (h.own k V),fun _=>rfl⟩
 have mI:g.bD nb≠.outer:=by grind
 have B:Kept g w d w' fun o=>o≠.none/\∀id,o=.bA id->s.heap[id]?≠some .dead:=fun k hk=>by
  refine A k ?_ hk.1;rintro rfl;rcases D with h|⟨id,h,U,_⟩
  ·exact hk.1 h
  ·exact hk.2 id h U
 refine⟨d,⟨m,fun k hk=>?_,L,F.1,F.2⟩,?_,by simp[d],by simp[d]⟩
 ·grind
 ·refine⟨h.sorted,h.size,h.defers,fun t e he=>(h.env t e he).kept m B (by simp) (by simp) (by simp),fun id bA f=>?_,fun k off v r=>?_,fun k hk=>?_,h.gz,fun id b q=>?_⟩
  ·simp only at f;by_cases W:id<s.heap.length
   ·rw[List.getElem?_append_left W]at f;have dN:=h.heap id bA f;rcases D with X|⟨H,Y,Z,aS,bI⟩
    ·have hk:Kept g w d w' fun o=>o≠.none:=fun k hk=>A k (by rintro rfl;exact hk X) hk;exact dN.kept m hk (by simp) (by simp)
    ·by_cases p:id=H
     ·subst p;rw[Z]at f;simp at f;subst f;trivial
     ·have hk:Kept g w d w' fun o=>o≠.none/\o≠.bA H:=fun k hk=>A k (by rintro rfl;exact hk.2 Y) hk.1;exact dN.beside m hk p aS bI (fun i ak=>by simp[ak]) (by simp)
   ·rw[List.getElem?_append_right (by omega)]at f;by_cases p:id=s.heap.length
    ·subst p;simp at f;subst f;obtain⟨i,z,bO,bY,c5,dH,gK,hQ⟩:=qm R;refine⟨nb,c*sz,by simp[d],by simp[d],⟨cur,e,l,?_,by simp[d],K,fun j x ah=>?_⟩,⟨cur,l,y⟩,i,z,bO,by omega,dH,by omega,hQ,by rw[bY];exact Nat.mul_le_mul_right _ S⟩
     ·have aD:=r.get.1;rcases Nat.eq_zero_or_pos us.length with bJ|bJ
      ·omega
      ·have ll:=G (us.length-1) us[us.length-1] (by simp[show us.length-1<us.length by omega]);have:=(Array.getElem?_eq_some_iff.1 ll).1;omega
     ·obtain⟨v,J,aQ⟩:=r.get.2 j x ah;exact⟨v,G j v J,O v (List.mem_of_getElem? J),aQ.mono m,(Q x (List.mem_of_getElem? ah)).gb⟩
    ·obtain⟨k,hk⟩:∃k,id-s.heap.length=k+1:=⟨id-s.heap.length-1,by omega⟩;rw[hk]at f;cases k with
     |zero=>simp at f;subst f;trivial|succ k=>simp at f
  ·have C:=h.ff k off v r;have uE:k≠nb:=by grind
   have fQ:=Ag C;unfold World.cell? at C ⊢;rw[E k uE fQ];exact C
  ·by_cases p:k=nb
   ·subst p;exact T
   ·have:g.bD k≠.none:=by simpa[d,p]using hk
    have:=h.own k this;omega
  ·simp only[List.length_append,List.length_cons,aKl];by_cases p:id=s.heap.length
   ·omega
   ·by_cases aN:id=s.heap.length+1
    ·omega
    ·simp[d,p,aN]at q;have:=h.fE id b q;omega
def Li(P:Program)(N:Nat)(o:Oper)(d e sz:Nat)(h2:Bool)(u x:aI):Bool:=cB N o d &&
 (match si o.op with
  |some (.append,[kq,bx],[t,ix])=>ds kq u&&ds bx x&&yj P t e sz&&(if h2=true then FX P ix&&sz==1 else t==ix)|_=>false)
theorem fB.yw:∀{ws:List Value}{cs:List AV},fB g.γ cs ws->cr g cs ws
 |[],_,h=>by cases h;exact .nil|_::_,_,.cons _ _ _ _ _ U b=>.cons _ _ _ _ (.pure _ _ U) (fB.yw b)
variable {h2:Bool}
theorem SE(h:Rel P gl N g s a w){y:AV}{ys:List AV}(f:bb g y v)(m:y.uu h2=some (sz,ys)) :
  ∃news:List Value,news.length=ys.length*sz/\cr g (ys.map fun v:AV=>v.cells.map AV.aW).flatten news/\(∀u∈news,u.oneCell'=true) /\
   ((h2=false/\∃base cap,v=.slice base ys.length cap/\(ys=[]\/∃b off,base=some ⟨b,off,none⟩/\∀j u,news[j]?=some u->w.cell? ((⟨b,off,none⟩:Addr).add j)=some u)) \/
    (h2=true/\∃l:List UInt8,v=.string ⟨l.toArray⟩/\sz=1/\ys.length=l.length/\news=Lib.strCells ⟨l.toArray⟩)):=by
 cases h2 with
 |true =>
  cases y<;>simp[AV.uu]at m;rename_i l;obtain⟨rfl,p⟩:=f.lV;obtain⟨rfl,rfl⟩:=m;refine⟨Lib.strCells ⟨l.toArray⟩,by rw[Lib.strCells_length];simp[ByteArray.size],?_,Lib.strCells_oneCell _,.inr ⟨rfl,l,rfl,rfl,by simp,rfl⟩⟩;simp only[Lib.strCells];clear f p;induction l with
  |nil=>exact .nil|cons c l ih=>exact .cons _ _ _ _ (.pure _ _ (.int _ _)) ih
 |false =>
  have B:y.iI=some (sz,ys):=by cases y<;>exact m
  obtain⟨base,cap,q,H,J⟩:=bb.Kx f B;rcases J with rfl|⟨b,off,rfl,C⟩
  ·exact⟨[],by simp,.nil,by simp,.inl ⟨rfl,base,cap,q,.inl rfl⟩⟩
  ·obtain⟨d,z,D,E,F,G⟩:=C.mE;refine⟨d.flatten,F,?_,fun u K=>?_,.inl ⟨rfl,_,cap,q,.inr ⟨b,off,rfl,fun j u L=>by rw[ni];exact h.ff _ _ _ (G j u L)⟩⟩⟩
   ·clear C G F m B f q H E;induction ys generalizing d with
    |nil=>cases d with|nil=>exact .nil|cons=>simp at z
    |cons y ys ih =>
     cases d with
     |nil=>simp at z|cons r d =>
      obtain⟨R,O,S⟩:=D 0 y r (by simp) (by simp);simp only[aKi,List.flatten_cons];refine cr.append (cr.aW ?_) (ih d (by simpa using z) fun k x r ah A=>D (k+1) x r (by simpa using ah) (by simpa using A));exact O.yw
   ·obtain⟨r,A,Q⟩:=List.mem_flatten.1 K;exact E r A u Q
theorem SF{x:Value}{base:Option Addr}(f:P.underlying t=some (.slice e))(d:(∃h,P.underlying u=some (.slice h))\/P.underlying u=some .string)(ak:P.info? e=some i)
  (ah:(∃b k,x=.slice b 0 k)\/x=.string ⟨#[]⟩)(j:n<=c)(ae:base=none->n=0/\c=0) :
  (Builtin.append_ #[t,u] ty #[.slice base n c,x]).run P w=.ok (.slice base n c) w:=by
 rcases d with⟨h,d⟩|d<;>rcases ah with⟨b,k,rfl⟩|rfl<;>cases base <;>
  first
  |(cases b<;>simp[Builtin.append_,run_underlying f,run_underlying d,Go.sizeOf,typeInfo,ak,Builtin.lenOf,j,Builtin.firstCells,loadCells,loadCellsFrom,storeCells];done)|(simp[Builtin.append_,run_underlying f,run_underlying d,Go.sizeOf,typeInfo,ak,Builtin.lenOf,j,Builtin.firstCells,loadCells,storeCells,ByteArray.size];done)
theorem ajV{d e:Nat}{u x:aI}(h:Rel P gl N g s a w)(af:Li P N o d e sz h2 u x=true)(he:aH gl s (.q6 d e sz h2 u x)=some s'):dR P gl N o g a w s':=by
 simp only[Li,aKh]at af;obtain⟨hd,aJ⟩:=af;split at aJ
 ·rename_i kq F t S aA;obtain⟨wD,cu⟩:=uH (o:=o) aA rfl a.eval;simp only[aKh]at aJ;obtain⟨⟨⟨C,ah⟩,hk⟩,T⟩:=aJ
  ·obtain⟨U,cn⟩:=CG hk;obtain⟨i,z,ak,bY,c5,dH,gK,hQ⟩:=qm cn;subst bY;have V:=hd;simp only[cB,aKh,beq_iff_eq,decide_eq_true_eq]at V;have Gq:(h2=true->P.underlying S=some .string/\i.size=1)/\(h2=false->t=S):=by
    cases h2 with
    |true=>simp at T;exact⟨fun _=>⟨RL T.1,T.2⟩,(fun h=>by cases h)⟩|false=>simp at T;exact⟨(fun h=>by cases h),fun _=>T⟩
   -- the run of the append, whatever is appended
   have SG:∀{v:Value}{n:Nat}{xs:List Value}{ys:List AV}{f:List Value},w.ownsRow 0 e i.size v n xs->0<ys.length->n+ys.length<=M->f.length=ys.length*i.size ->
     (∀q∈f,q.oneCell'=true) ->
     ((h2=false/\∃base cap,a.eval F=.slice base ys.length cap/\(ys=[]\/∃b off,base=some ⟨b,off,none⟩/\∀j u,f[j]?=some u->w.cell? ((⟨b,off,none⟩:Addr).add j)=some u)) \/
      (h2=true/\∃l:List UInt8,a.eval F=.string ⟨l.toArray⟩/\i.size=1/\ys.length=l.length/\f=Lib.strCells ⟨l.toArray⟩)) ->
     ∃L w',(Builtin.append_ #[t,S] o.type #[v,a.eval F]).run P w=.ok L w'/\w'.ownsRow 0 e i.size L (n+ys.length) (xs++f)/\w.heap.size<=w'.heap.size /\
      ((L.ownBlock=v.ownBlock/\v.ownBlock≠none/\∀k,some k≠v.ownBlock->w'.heap[k]?=w.heap[k]?)\/(L.ownBlock=some w.heap.size/\w.heap.size<w'.heap.size/\∀k,k<w.heap.size->w'.heap[k]?=w.heap[k]?))/\((w'.os,w'.tape)=(w.os,w.tape)/\w'.output=w.output):=by
    intro v n xs ys f fk O W Kr lX Lj;rcases Lj with⟨G,base,cap,X,Y⟩|⟨G,l,X,au,Y,H⟩
    ·have:=Gq.2 G;subst this;rcases Y with rfl|⟨b,off,rfl,H⟩
     ·simp at O
     ·rw[X];exact F8 (P:=P) (w:=w) (ty:=o.type) (c:=cap) U ak dH gK fk Kr H lX O W hQ
    ·obtain⟨az,ku⟩:=Gq.1 G;have rf:(ByteArray.mk l.toArray).size=ys.length:=by rw[Y];simp[ByteArray.size]
     have:=ajR (P:=P) (w:=w) (ty:=o.type) U az ak dH gK ku fk ⟨l.toArray⟩ (by omega) (by omega) hQ;rw[X,H];rw[rf]at this;exact this
   have nq:∀{base:Option Addr}{n c:Nat}{ys:List AV},ys=[]->((h2=false/\∃base cap,a.eval F=.slice base ys.length cap)\/(h2=true/\∃l:List UInt8,a.eval F=.string ⟨l.toArray⟩/\ys.length=l.length))->n<=c->(base=none->n=0/\c=0) ->
     (Builtin.append_ #[t,S] o.type #[.slice base n c,a.eval F]).run P w=.ok (.slice base n c) w:=by
    intro base n c ys hG Lj uT ae;subst hG;rcases Lj with⟨G,b,k,q⟩|⟨G,l,q,au⟩
    ·have:=Gq.2 G;subst this;exact SF U (.inl ⟨_,U⟩) ak (.inl ⟨b,k,by simpa using q⟩) uT ae
    ·have:l=[]:=aKm (by simpa using au.symm);subst this;exact SF U (.inr (Gq.1 G).1) ak (.inr (by simpa using q)) uT ae
   simp only[aH]at he;split at he
   ·rename_i nT dE ys aN aX;obtain⟨y,a1,wO⟩:=bind_some aX;split at he
    ·rename_i ae;obtain⟨rfl,rfl,W⟩:=ae;have q:=(c9 h C aN).tk;obtain⟨f,dV,de,Z,ss⟩:=SE h (c9 h ah a1) wO;split at he
     · -- nothing is appended
      have aw:=nq (base:=none) (n:=0) (c:=0) (ys:=[]) rfl (by
       rcases ss with⟨m,b,k,r,_⟩|⟨m,l,r,_,J,_⟩
       ·exact .inl ⟨m,b,k,r⟩
       ·exact .inr ⟨m,l,r,J⟩) (by omega) (by simp)
      refine .value h hd he ?_ (.pure _ _ (.aV _)) (fun _ _ _ h=>by simp at h);rw[cu];simp only[builtin,aKi,aKj,q,Sem.run_bind,aw,Result.andThen_ok,Sem.run_pure]
     ·rename_i kO ajW;generalize hG:kO::ajW=ys at *;have O:0<ys.length:=by rw[<-hG];simp
      obtain⟨L,w',cY,Q,fc,R,gm⟩:=SG (World.ownsRow_nil w 0 e i.size) O (by simpa using W) dV Z (by
       rcases ss with⟨m,b,k,r,A⟩|⟨m,l,r,A,J,m5⟩
       ·exact .inl ⟨m,b,k,r,A⟩
       ·exact .inr ⟨m,l,r,A,J,m5⟩)
      rcases R with⟨_,K,_⟩|⟨K,ht,Lk⟩
      ·exact absurd rfl K
      ·rcases Q.2 with⟨rfl,_⟩|⟨nb,cap,p,rfl,_,c1,c2,fW,gT,qs⟩
       ·simp[Value.ownBlock]at K
       ·simp[Value.ownBlock]at K;subst K;obtain⟨g',t1,t2,t3,t4⟩:=h.Lh (w':=w') (nb:=w.heap.size) (us:=f) (c:=cap) (.inl h.CA) h.uP (fun k hk bw=>Lk k bw) fc gm c1 gT (fun j u D=>by
         have:(p.toList.take ((0+ys.length)*i.size))[j]?=some u:=by rw[qs];simpa using D
         rw[aKn]at this;split at this
         ·simpa using this
         ·cases this) de Z (fun c af=>by
         obtain⟨l,aD,ji⟩:=List.mem_flatten.1 af;obtain⟨v,_,rfl⟩:=List.mem_map.1 aD;exact tl c ji) cn fW
        refine⟨.slice (some ⟨w.heap.size,0,none⟩) (0+ys.length) cap,w',g',.inl ?_,t1,?_⟩
        ·rw[cu];simp only[builtin,aKi,aKj,q,Sem.run_bind,cY,Result.andThen_ok,Sem.run_pure]
        ·rw[V.1];simp only[aKg];exact t2.put he V.2 (.bs _ _ _ _ _ _ cap t3 t4 (by simp) (by omega)) (.lU fun _ _ _ h=>by simp at h)
    ·cases he
   ·rename_i id n nT dE ys aN aX;obtain⟨y,a1,wO⟩:=bind_some aX;split at he
    ·rename_i b3 cs bM;split at he
     ·rename_i ae;obtain⟨rfl,rfl,rfl,aGL,W⟩:=ae;obtain⟨b,k,cap,X,au,Y,H,er⟩:=(c9 h C aN).sj;obtain⟨f,dV,de,Z,ss⟩:=SE h (c9 h ah a1) wO;obtain⟨bU,k',aK,wV,aQ,⟨arr,bH,cO⟩,i0,z0,fj,h9,nU,u0,u1,SH⟩:=h.heap _ _ bM;rw[X]at aK;simp at aK;subst aK;rw[au]at wV;simp at wV;subst wV;have Ll:=fj;rw[ak]at Ll;simp at Ll;subst Ll;obtain⟨ws,c1,c2,fW,gT⟩:=aQ.cells (off:=0) (n:=n*i.size);simp only[List.drop_zero]at c1 c2;obtain⟨E,SC,cU,ej,fs,pA,Lm⟩:=aQ;rw[bH]at cU;simp at cU;obtain⟨rfl,rfl⟩:=cU;rw[aKg]at Y;have uO:cap<=maxLen:=by
       have:cap*i.size<=maxLen*i.size:=by omega
       exact Nat.le_of_mul_le_mul_right this h9
      have aGM:n*i.size<=arr.size:=by omega
      have Ln:ws.length=n*i.size:=by
       have:=c2.get.1;simp at this;omega
      have oS:arr.toList.take (n*i.size)=ws:=by
       apply List.ext_getElem?;intro j;rw[aKn];split
       ·rename_i D;have re:j<ws.length:=by omega
        have h1:=gT j ws[j] (by simp[re]);simp only[World.cell?,bH,aKg]at h1;rw[List.getElem?_eq_getElem re,Array.getElem?_toList];simpa using h1
       ·grind
      have fk:w.ownsRow 0 b3 i.size (.slice (some ⟨b,0,none⟩) n cap) n ws:=⟨Ln,.inr ⟨b,cap,arr,rfl,aKk _,bH,H,uO,by omega,oS⟩⟩;have sk:id<s.heap.length:=(aKo.1 bM).1;have Lf:=h.dead id;have SI:∀E n',w.heap[b]?≠some (.map E n'):=by simp[bH]
      have ajX:∀x∈(cs.take (n*i.size)).map AV.aW++(ys.map fun v:AV=>v.cells.map AV.aW).flatten,cP x:=fun x ah=>by
       rcases List.mem_append.1 ah with ah|ah
       ·exact tl x ah
       ·obtain⟨l,aD,ji⟩:=List.mem_flatten.1 ah;obtain⟨v,_,rfl⟩:=List.mem_map.1 aD;exact tl x ji
      have jv:cr g ((cs.take (n*i.size)).map AV.aW++(ys.map fun v:AV=>v.cells.map AV.aW).flatten) (ws++f):=c2.aW.append de;have lX:∀u∈ws++f,u.oneCell'=true:=fun u C=>by
       rcases List.mem_append.1 C with C|C
       ·exact fW u C
       ·exact Z u C
      have ajY:({ s with heap:=s.heap.set id .dead }:an).heap.length=s.heap.length:=by simp
      -- where the result lies
      have u2:∃nb B w' p,(Builtin.append_ #[t,S] o.type #[.slice (some ⟨b,0,none⟩) n cap,a.eval F]).run P w=.ok (.slice (some ⟨nb,0,none⟩) (n+ys.length) B) w'/\(nb=b\/nb=w.heap.size)/\w.heap.size<=w'.heap.size/\((w'.os,w'.tape)=(w.os,w.tape)/\w'.output=w.output) /\
        (∀k,k≠nb->k<w.heap.size->w'.heap[k]?=w.heap[k]?)/\w'.heap[nb]?=some (.cells p b3 (0,0))/\n+ys.length<=B/\B<=maxLen/\p.size=B*i.size/\∀(j:Nat)u,(ws++f)[j]?=some u->p[j]?=some u:=by
       by_cases O:0<ys.length
       ·obtain⟨L,w',cY,Q,fc,R,gm⟩:=SG fk O W dV Z (by
         rcases ss with⟨m,b,k,r,A⟩|⟨m,l,r,A,J,m5⟩
         ·exact .inl ⟨m,b,k,r,A⟩
         ·exact .inr ⟨m,l,r,A,J,m5⟩)
        rcases Q.2 with⟨rfl,aP⟩|⟨nb,B,p,rfl,_,d1,d2,d3,d4,d5⟩
        ·omega
        ·refine⟨nb,B,w',p,cY,?_,fc,gm,?_,d1,d2,d3,d4,fun j u D=>?_⟩
         ·rcases R with⟨m,_⟩|⟨m,_⟩
          ·left;simpa[Value.ownBlock]using m
          ·right;simpa[Value.ownBlock]using m
         ·intro k hk bw;rcases R with⟨m,_,A⟩|⟨m,_,A⟩
          ·exact A k (by rw[<-m];simpa[Value.ownBlock]using hk)
          ·exact A k bw
         ·grind
       ·have aP:ys=[]:=aKm (by omega);have aw:=nq (base:=some ⟨b,0,none⟩) (n:=n) (c:=cap) aP (by
         rcases ss with⟨m,b,k,r,_⟩|⟨m,l,r,_,J,_⟩
         ·exact .inl ⟨m,b,k,r⟩
         ·exact .inr ⟨m,l,r,J⟩) H (by simp)
        have ra:f=[]:=aKm (by rw[dV,aP];simp);refine⟨b,cap,w,arr,by rw[aw,aP];rfl,.inl rfl,Nat.le_refl _,⟨rfl,rfl⟩,fun _ _ _=>rfl,bH,by rw[aP];exact H,uO,by omega,fun j u D=>?_⟩;rw[ra,List.append_nil,<-oS,aKn]at D;split at D
        ·simpa using D
        ·cases D
      obtain⟨nb,B,w',p,cY,Q,fc,gm,R,K,ht,Lk,ajZ,aj0⟩:=u2;obtain⟨g',t1,t2,t3,t4⟩:=Lf.Lh (w':=w') (nb:=nb) (sz:=i.size) (us:=ws++f) (c:=B) (by
       rcases Q with rfl|rfl
       ·grind
       ·exact .inl h.CA) (by
       rcases Q with rfl|rfl
       ·exact pA
       ·exact h.uP) R fc gm K ajZ aj0 jv lX ajX cn Lk
      rw[ajY]at t3 t4;refine⟨.slice (some ⟨nb,0,none⟩) (n+ys.length) B,w',g',.inl ?_,t1,?_⟩
      ·rw[cu];simp only[builtin,aKi,aKj,er,Sem.run_bind,cY,Result.andThen_ok,Sem.run_pure]
      ·rw[V.1];exact t2.put he V.2 (.bs _ _ _ _ _ _ B t3 t4 (by simp) ht) (.lU fun _ _ _ h=>by simp at h)
     ·cases he
    ·cases he
   ·cases he
 ·cases aJ
end
section
variable {P:Program}{gl:cp}{N:Nat}{g g':bo}{s s':an}{a:Act}{w w':World}{o:Oper}
variable {id:Nat}
theorem Rel.aj1(h:Rel P gl N g s a w){b:Nat}{ws:List Value}{ow:ey}(p:s.heap[id]?=some .dead)(ae:g.b4 id=some b)(aA:g.bD b=.bA id)(q:∀off,g.γ b off=none)(hm:∀arr n,w.heap[b]?≠some (.map arr n))
  (r:∀(j:Nat)u,ws[j]?=some u->w.cell? ⟨b,j,none⟩=some u):ef g w (g.app b ws ow) w/\Rel P gl N (g.app b ws ow) s a w:=by
 have d:GhLe g (g.app b ws ow):=⟨fun k off v c=>by
  have:k≠b:=by rintro rfl;rw[q]at c;cases c
  simpa[bo.app,this]using c,fun _ _ h=>h⟩
 have hk:Kept g w (g.app b ws ow) w fun o=>o≠.bA id:=fun k hk=>by
  have:k≠b:=by rintro rfl;exact hk aA
  exact⟨by simp[bo.app,this],rfl,fun _=>by simp[bo.app,this]⟩
 refine⟨⟨d,fun k l=>?_,Nat.le_refl _,rfl,rfl⟩,?_⟩
 ·have:k≠b:=by rintro rfl;have:=aA.symm.trans l;cases this
  exact⟨by simpa[bo.app,this]using l,rfl,fun _=>by simp[bo.app,this]⟩
 ·refine⟨h.sorted,h.size,h.defers,fun t e he=>(h.env t e he).kept d hk (by simp) (by simp) (by simp),fun m bA f=>?_,fun k off v c=>?_,fun k hk=>?_,fun n x ah=>(h.gz n x ah).mono d.γ,h.fE⟩
  ·by_cases e:m=id
   ·subst e;rw[p]at f;simp at f;subst f;trivial
   ·exact(h.heap m bA f).beside d hk e ae hm (fun i ak=>by simp[ak]) (by simp)
  ·by_cases e:k=b
   ·subst e;simp only[bo.app,if_true]at c;exact r off v c
   ·simp only[bo.app,e,if_false]at c;exact h.ff k off v c
  ·by_cases e:k=b
   ·subst e;exact h.own k (by rw[aA];simp)
   ·simp only[bo.app,e,if_false]at hk;exact h.own k hk
variable {e sz:Nat}{v:Value}
theorem Lo(h:Rel P gl N g s a w){n:Nat}{cs:List AV}(R:bb g (.bs id 0 n sz) v)(B:s.heap[id]?=some (.buf e cs))(S:jE P e sz=true)(aL:n*sz<=cs.length)(ao:((cs.take (n*sz)).map AV.aW).all AV.eb=true)(bm:n<=M)(ow:ey) :
  ∃g',ef g w g' w/\Rel P gl N g' { s with heap:=s.heap.set id .dead } a w/\df g'.γ (.list none sz (chunk sz n ((cs.take (n*sz)).map AV.aW))) v /\
   e6 P g' w ow (.list (some e) sz (chunk sz n ((cs.take (n*sz)).map AV.aW))) v:=by
 obtain⟨b,k,cap,C,T,U,V,rfl⟩:=R.sj;obtain⟨W,k',l,m,D,⟨arr,f,cO⟩,i0,z0,p,X,nU,u0,u1,Y⟩:=h.heap _ _ B;rw[C]at l;simp at l;subst l;rw[T]at m;simp at m;subst m;obtain⟨i,z,E,q,F,Z,gK,hQ⟩:=qm S;rw[E]at p;simp at p;subst p;obtain⟨ws,c1,r,fW,G⟩:=D.cells (off:=0) (n:=n*sz);simp only[List.drop_zero]at c1 r;obtain⟨H,SC,t,ej,fs,pA,Lm⟩:=D;rw[f]at t;simp at t;obtain⟨rfl,rfl⟩:=t;rw[aKg]at U;have sk:id<s.heap.length:=(aKo.1 B).1;have Ln:ws.length=n*sz:=by have:=r.get.1;simp at this;omega
 have hb:∀(j:Nat)u,ws[j]?=some u->w.cell? ⟨b,j,none⟩=some u:=fun j u x=>by simpa using G j u x
 obtain⟨J,t2⟩:=(h.dead id).aj1 (id:=id) (b:=b) (ws:=ws) (ow:=ow) (by simp[sk]) C fs pA (by simp[f]) hb;have y:fB (g.app b ws ow).γ ((cs.take (n*sz)).map AV.aW) ws:=fB.mono J.γ (r.aW.Km ao fW);have A:e5 (g.app b ws ow).γ b 0 ((cs.take (n*sz)).map AV.aW):=e5.F2 y fun j u x=>by simp[bo.app,x]
 have d:((cs.take (n*sz)).map AV.aW).length=n*sz:=by simp;omega
 obtain⟨K,c⟩:=KD F n 0 _ d A;refine⟨_,J,t2,.Af c.symm (by omega) (by omega) K,?_⟩;intro e0 nT xs ah;simp only[AV.list.injEq,Option.some.injEq]at ah;obtain⟨rfl,rfl,rfl⟩:=ah;have uO:cap<=maxLen:=by
  have:cap*i.size<=maxLen*i.size:=by rw[q];rw[q]at Y;omega
  exact Nat.le_of_mul_le_mul_right this X
 have oS:arr.toList.take (n*sz)=ws:=by
  apply List.ext_getElem?;intro j;rw[aKn];split
  ·rename_i aZ;have L:j<ws.length:=by omega
   have O:=G j ws[j] (by simp[L]);simp only[World.cell?,f,aKg]at O;rw[List.getElem?_eq_getElem L,Array.getElem?_toList];simpa using O
  ·grind
 refine⟨i,z,ws,E,q,F,Z,gK,hQ,by omega,⟨by rw[c];exact Ln,.inr ⟨b,cap,arr,by rw[c],aKk _,f,by rw[c];exact V,uO,by omega,by rw[c];exact oS⟩⟩,fun W Q=>?_⟩;simp only[Value.ownBlock,Option.some.injEq]at Q;subst Q;refine⟨by simp[bo.app],K,fun off x9=>?_⟩;simp only[bo.app,if_true];rw[List.getElem?_eq_none];rw[c]at x9;omega
def AA(s:an)(t e sz:Nat):Option an:=match Env.get s.env t with
 |some (.v (.bs id 0 n dE))=>match s.heap[id]? with
  |some (.buf b3 cs)=>if b3=e/\dE=sz/\n*sz<=cs.length/\((cs.take (n*sz)).map AV.aW).all AV.eb=true/\n<=M then
    some { env:=s.env.ins t (.v (.list (some e) sz (chunk sz n ((cs.take (n*sz)).map AV.aW)))),heap:=s.heap.set id .dead }else none
  |_=>none
 |some (.v _)=>some s|_=>none
def AB(s:an)(t off e sz:Nat):Option an:=match Env.get s.env t with
 |some (.b iz)=>match iz[off]? with
  |some (.bs id 0 n dE)=>match s.heap[id]? with
   |some (.buf b3 cs)=>if b3=e/\dE=sz/\n*sz<=cs.length/\((cs.take (n*sz)).map AV.aW).all AV.eb=true/\n<=M then
     some { env:=s.env.ins t (.b (iz.set off (.list none sz (chunk sz n ((cs.take (n*sz)).map AV.aW))))),heap:=s.heap.set id .dead }else none
   |_=>none
  |some _=>some s|none=>none
 |_=>none
variable {t:Nat}{x y:AV}
theorem Rel.aj4(h:Rel P gl N g s a w)(i:s.env.get t=some (.v x))(j:a.tmps[t]?=some v)(k:bb g y v)(aA:e6 P g w (.var t) y v):Rel P gl N g { s with env:=s.env.ins t (.v y) } a w:=by
 refine⟨Env.dQ.ins h.sorted t _,h.size,h.defers,fun u e he=>?_,h.heap,h.ff,h.own,h.gz,h.fE⟩;simp only at he ⊢;rw[Env.hp]at he;split at he
 ·rename_i f;subst f;simp at he;subst he;exact⟨v,j,k,aA⟩
 ·rename_i f;have c:=h.env u e he;cases e with
  |v y=>exact c|b cs=>exact c|a l off =>
   obtain⟨⟨cs,d⟩,p⟩:=c;refine⟨⟨cs,?_⟩,p⟩;rw[Env.hp];have:l≠t:=by rintro rfl;rw[i]at d;simp at d
   simp[this,d]
theorem Rel.qi(h:Rel P gl N g s a w)(c:jE P e sz=true)(he:AA s t e sz=some s'):∃g',ef g w g' w/\Rel P gl N g' s' a w:=by
 unfold AA at he;split at he
 ·rename_i id n u b;split at he
  ·rename_i z cs d;split at he
   ·rename_i ae;obtain⟨rfl,rfl,f,i,j⟩:=ae;simp only[Option.some.injEq]at he;subst he;obtain⟨v,k,l,_⟩:=h.env _ _ b;obtain⟨g',m,p,q,r⟩:=Lo h l d c f i j (.var t);exact⟨g',m,p.aj4 b k (.own _ _ _ _ q) r⟩
   ·cases he
  ·cases he
 ·simp at he;subst he;exact⟨g,.refl _ _,h⟩
 ·cases he
variable {off:Nat}
theorem Rel.aj5(h:Rel P gl N g s a w){j:List AV}(n:s.env.get t=some (.b j))(ah:j[off]?=some x)(q:∀v,bb g x v->bb g y v)(r:cP y):Rel P gl N g { s with env:=s.env.ins t (.b (j.set off y)) } a w:=by
 refine⟨Env.dQ.ins h.sorted t _,h.size,h.defers,fun u e he=>?_,h.heap,h.ff,h.own,h.gz,h.fE⟩;simp only at he ⊢;rw[Env.hp]at he;split at he
 ·rename_i l;subst l;simp at he;subst he;obtain⟨b,z,arr,A,B,C,D,E,m⟩:=h.env _ _ n;refine⟨b,z,arr,A,B,by simpa using C,D,E,fun i c d=>?_⟩;rw[List.getElem?_set]at d;split at d
  ·rename_i f;subst f;split at d
   ·simp at d;subst d;obtain⟨v,F,G,H,L⟩:=m _ _ ah;exact⟨v,F,G,q v H,r.gb⟩
   ·cases d
  ·exact m i c d
 ·rename_i l;have k:=h.env u e he;cases e with
  |v y=>exact k|b cs=>exact k|a J off =>
   obtain⟨⟨cs,K⟩,p⟩:=k;refine⟨?_,p⟩;rw[Env.hp];by_cases f:J=t
   ·simp[f]
   ·simp[f,K]
theorem Rel.sc(h:Rel P gl N g s a w)(i:jE P e sz=true)(he:AB s t off e sz=some s'):∃g',ef g w g' w/\Rel P gl N g' s' a w:=by
 unfold AB at he;split at he
 ·rename_i J j;split at he
  ·rename_i id n p ah;split at he
   ·rename_i K cs q;split at he
    ·rename_i ae;obtain⟨rfl,rfl,r,u,z⟩:=ae;simp only[Option.some.injEq]at he;subst he;obtain⟨b,L,arr,O,c,k,l,Q,A⟩:=h.env _ _ j;obtain⟨v,R,S,m,T⟩:=A _ _ ah;obtain⟨g',c,k,l,_⟩:=Lo h m q i r u z .Co;refine⟨g',c,k.aj5 (s:={ s with heap:=s.heap.set id .dead }) j ah (fun U B=>?_) (cP.none _ _)⟩;have C:=m.mono c.toGhLe;obtain⟨_,_,_,_,_,V,_⟩:=qm i;obtain⟨W,X,D,E,F,Y,Z,rfl⟩:=C.sj;obtain⟨e7,c4,G,d,f,fm,ss,rfl⟩:=B.sj;rw[E]at d;simp at d;subst d;rw[F]at f;simp at f;subst f;have H:D=G:=Nat.eq_of_mul_eq_mul_right (show 0<p by omega) (by omega);subst H;exact .pure _ _ l
    ·cases he
   ·cases he
  ·simp at he;subst he;exact⟨g,.refl _ _,h⟩
  ·cases he
 ·cases he
end
end AM
