/- An abstract machine, and what of the given program it does, part 2. Conditions: none. -/
import Derived.Test.YtmmplkgkkkjojaaGreatDoorAm0
import Derived.Laws.CopyRow
import Derived.Laws.AppendOwnNone
import Derived.Maps.Keyed
import Derived.DeepKeys4
set_option linter.unusedSimpArgs false
set_option linter.unusedVariables false
namespace AM
open Bool renaming and_eq_true -> aKB,false_eq_true -> aKY
open Nat renaming add_mul -> aKC,zero_add -> aKD,le_refl -> aKL,add_zero -> aKN,zero_le -> aKW,mul_le_mul -> aK4,mul_le_mul_right -> aK7
open List renaming length_map -> aKE,map_cons -> aKF,getElem?_eq_getElem -> aKG,getElem?_eq_some_iff -> aKH,mem_of_getElem? -> aKJ,all_eq_true -> aKK,getElem?_set -> aKM,eq_nil_of_length_eq_zero -> aKP,getElem_of_mem -> aKQ,getElem?_append_left -> aKR,length_append -> aKS,length_cons -> aKT,getElem?_set_self -> aKU,replicate -> aKX,flatten_cons -> aK2,getElem?_append_right -> aK3,mem_flatten -> aK5,getElem?_eq_none -> aK8
open Array renaming ext' -> aKI,length_toList -> aKV,getElem?_toList -> aK6
open Option renaming map_none -> aKO,map_some -> aKZ
open Go
section
variable {P:Program}{gl:cQ}{N:Nat}{g:bD}{s s':au}{a:Act}{w:World}{o:Oper}
def HN(P:Program)(t:TypeId):Bool:=match P.underlying t with|some .string=>true|_=>false
variable {t:TypeId}
theorem UK(h:HN P t=true):P.underlying t=some .string:=by unfold HN at h;split at h<;>simp_all
def Mh(P:Program)(N:Nat)(o:Oper)(d jW:Nat)(x:aL)(bc al:Option aL):Bool:=cZ N o d &&
 (match o.op with|.slice t bK xN n2 none=>dJ bK x&&xM xN bc&&xM n2 al&&(if jW=0 then HN P t else vN P t jW)|_=>false)
theorem anm(l:List UInt8)(i j:Nat):(ByteArray.mk l.toArray).extract i j=ByteArray.mk ((l.take j).drop i).toArray:=by
 apply ByteArray.ext;simp only[ByteArray.data_extract];apply aKI;simp[List.drop_take]
variable {bc al:Option Value}{i j:Nat}
theorem ann{l:List UInt8}(b:P.underlying t=some .string)(ae:(Instr.sliceBounds false l.length l.length bc al none).run P w=.ok (i,j,l.length) w) :
  (Instr.sliceAt t (.string ⟨l.toArray⟩) bc al none).run P w=.ok (.string ⟨((l.take j).drop i).toArray⟩) w:=by
 have e:(ByteArray.mk l.toArray).size=l.length:=by simp[ByteArray.size]
 simp only[Instr.sliceAt,Sem.run_bind,run_underlying b,Result.andThen_ok,Instr.slice,Option.isSome_none,aKY,if_false,e,ae,Sem.run_pure,anm]
variable {base:Option Addr}{cap:Nat}
theorem Mi{e:TypeId}{f:TypeInfo}{len:Nat}(b:P.underlying t=some (.slice e))(c:P.info? e=some f)
  (ae:(Instr.sliceBounds true len cap bc al none).run P w=.ok (i,j,cap) w) :
  (Instr.sliceAt t (.slice base len cap) bc al none).run P w=.ok (.slice (if cap=i then base else base.map (·.add (i*f.size))) (j-i) (cap-i)) w:=by
 simp only[Instr.sliceAt,Sem.run_bind,run_underlying b,Result.andThen_ok,Instr.slice,ae,Sem.run_pure,Go.sizeOf,typeInfo,run_program,c]
variable {γ:fA}{sz:Nat}{xs:List AV}{n:Nat}
theorem dr.Bv{b off:Nat}(c:n=xs.length)(d:xs.length<=M)(e:xs.length<=cap)(f:fa γ b off sz xs):dr γ (.list none sz xs) (.slice (some ⟨b,off,none⟩) n cap):=by
 subst c;exact .list _ _ _ _ _ d e f
theorem dr.Mj(ah:xs=[])(b:n=0)(ae:base=none->cap=0):dr γ (.list none sz xs) (.slice base n cap):=by
 subst ah;subst b;exact .kn _ _ _ ae
variable {d:Nat}{x:aL}
theorem ano{D:Nat}{bc al:Option aL}(h:Rel P gl N g s a w)(K:Mh P N o d D x bc al=true)(he:aJ gl s (.qb d D x bc al)=some s'):eu P gl N o g a w s':=by
 simp only[Mh,aKB]at K;obtain⟨hd,E⟩:=K;split at E
 ·rename_i t bK xN n2 aE;simp only[aKB]at E;obtain⟨⟨⟨ah,F⟩,G⟩,hk⟩:=E;simp only[aJ]at he;split at he
  ·rename_i l c;split at he
   ·rename_i i j k m;split at he
    ·rename_i ae;obtain⟨p,q,r,z⟩:=ae;simp only[p,if_true]at hk;have u:=UK hk;have L:=(dk h ah c).mG;have y:=D9 (P:=P) (w:=w) h false F G k m q r z (aKL _);refine .value h hd he ?_ (.pure _ _ (.str ((l.take j.toNat).drop i.toNat) ?_)) (zp _)
     ·simp only[execOp,aE,aKO,Sem.run_bind,L.1,ann u y,Result.andThen_ok,Sem.run_pure]
     ·have:=L.2;simp;omega
    ·cases he
   ·cases he
  ·rename_i own sz xs c;split at he
   ·rename_i i j k m;split at he
    ·rename_i ae;obtain⟨p,A,q,r,z⟩:=ae;subst p;simp only[A,if_false]at hk;unfold vN at hk;split at hk
     ·rename_i e u;split at hk
      ·rename_i f B;simp at hk;obtain⟨base,cap,H,W,X⟩:=(dk h ah c).zq;have Y:xs.length<=cap:=W.2;have y:=D9 (P:=P) (w:=w) h true F G k m q r z Y;refine .value h hd he (v:=.slice (if cap=i.toNat then base else base.map (·.add (i.toNat*f.size))) (j.toNat-i.toNat) (cap-i.toNat)) ?_ ?_ (cY.none _ _)
       ·simp only[execOp,aE,aKO,Sem.run_bind,H,Mi u B y,Result.andThen_ok,Sem.run_pure]
       ·have C:((xs.take j.toNat).drop i.toNat).length=j.toNat-i.toNat:=by simp;omega
        by_cases O:j.toNat=i.toNat
        ·have Z:=bn.am7 (H▸dk h ah c);exact .pure _ _ (.Mj (by apply aKP;omega) am (by
          intro ae;split at ae
          ·omega
          ·rw[Z ni];omega))
        ·rcases X with rfl|⟨b,off,rfl,fL⟩
         ·simp at z;omega
         ·have cG:¬cap=i.toNat:=by omega
          simp only[cG,if_false,aKZ,n0,hk];exact .pure _ _ (.Bv C.symm d9 am ((fL.take _).drop _))
      ·cases hk
     ·cases hk
    ·cases he
   ·cases he
  ·rename_i sz c;split at he
   ·rename_i i j k m;split at he
    ·rename_i ae;obtain⟨p,A,q,r⟩:=ae;subst p q r;simp only[A,if_false]at hk;unfold vN at hk;split at hk
     ·rename_i e u;split at hk
      ·rename_i f B;have H:=(dk h ah c).uz;have y:=D9 (P:=P) (w:=w) (len:=0) (cap:=0) h true F G k m am am am am;refine .value h hd he (v:=.slice none 0 0) ?_ (.pure _ _ (.aS _)) (λ_ _ _ h=>f9);simp only[execOp,aE,aKO,Sem.run_bind,H,Mi u B y,Result.andThen_ok,Sem.run_pure];simp
      ·cases hk
     ·cases hk
    ·cases he
   ·cases he
  ·rename_i id off n sz c;split at he
   ·rename_i i j k m;split at he
    ·rename_i ae;obtain⟨p,A,q,r,z⟩:=ae;subst p;simp only[A,if_false]at hk;unfold vN at hk;split at hk
     ·rename_i e u;split at hk
      ·rename_i f B;simp at hk;obtain⟨b,Q,cap,R,S,T,bG,ev⟩:=(dk h ah c).ti;have y:=D9 (P:=P) (w:=w) h true F G k m q r z bG;have V:(execOp a.eval o).run P w=.ok (.value (.slice (if cap=i.toNat then some ⟨b,off,none⟩else(some (⟨b,off,none⟩:Addr)).map (·.add (i.toNat*f.size))) (j.toNat-i.toNat) (cap-i.toNat))) w:=by
        simp only[execOp,aE,aKO,Sem.run_bind,ev,Mi u B y,Result.andThen_ok,Sem.run_pure]
       split at he
       ·rename_i O;exact .value h hd he V (.pure _ _ (.Mj rfl am (by intro ae;split at ae<;>simp at ae))) (cY.none _ _)
       ·rename_i O;refine .value h hd he V ?_ (λ_ _ _ h=>f9);by_cases J:cap=i.toNat
        ·have Ml:i=0:=by omega
         subst Ml;simp only[Int.toNat_zero]at J;subst J;simpa using bn.bI id off (j.toNat) D b Q 0 R S T am
        ·simp only[J,if_false,aKZ,n0,hk];refine bn.bI id _ _ D b Q (cap-i.toNat) R S ?_ am;rw[<-T,Nat.add_assoc,<-aKC];congr 2;omega
      ·cases hk
     ·cases hk
    ·cases he
   ·cases he
  ·cases he
 ·cases E
theorem cS.anp{cs:List AV}{ws:List Value}(h:cS g cs ws)(b:cs.all AV.one=true):∀v∈ws,v.oneCell'=true:=by
 induction ws generalizing cs with
 |nil=>simp|cons v ws ih=>cases h with
  |cons c cs _ _ f k =>
   simp only[List.all_cons,aKB]at b;intro u e;rcases List.mem_cons.1 e with rfl|e
   ·cases f with
    |pure _ _ ar=>cases ar<;>first|rfl|simp[AV.one]at b
    |own _ _ _ _ ar=>cases ar<;>rfl|ptr=>rfl|map=>rfl|bI=>rfl|lU=>rfl|fn=>rfl|agg=>simp[AV.one]at b|bg=>simp[AV.one]at b
   ·exact ih k b.2 u e
theorem bn.cells{x:AV}{v:Value}(h:bn g x v)(ah:x.cells.all AV.one=true):cS g x.cells v.cells.toList/\(∀u∈v.cells.toList,u.oneCell'=true):=by
 by_cases c:∃cs,x=.agg cs
 ·obtain⟨cs,rfl⟩:=c;obtain⟨ws,rfl,f,k⟩:=h.oP;exact⟨by simpa[AV.cells,Value.cells]using f,by simpa[Value.cells]using k⟩
 ·have e:x.cells=[x]:=by cases x<;>first|rfl|simp_all
  rw[e]at ah ⊢;have l:v.cells=#[v]:=by
   cases h with
   |pure _ _ ar=>cases ar<;>first|rfl|simp_all
   |own _ _ _ _ ar=>cases ar<;>rfl|ptr=>rfl|map=>rfl|bI=>rfl|lU=>rfl|fn=>rfl|agg=>simp_all|bg=>rfl
  rw[l];have b:cS g [x] [v]:=.cons _ _ _ _ h .nil;exact⟨b,b.anp ah⟩
def Mm(N:Nat)(o:Oper)(d:Nat)(k6:Bool)(x y:aL):Bool:=cZ N o d &&
 (match th o.op with|some (b,[bK,hy],_)=>dJ bK x&&dJ hy y&&(match b with|.max=>k6|.min=>!k6|_=>false)|_=>false)
theorem anq{k6:Bool}{y:aL}(h:Rel P gl N g s a w)(e:Mm N o d k6 x y=true)(he:aJ gl s (.r5 d k6 x y)=some s'):eu P gl N o g a w s':=by
 simp only[Mm,aKB]at e;obtain⟨hd,c⟩:=e;split at c
 ·rename_i b z A bE aE;obtain⟨B,p⟩:=vI (o:=o) aE rfl a.eval;simp only[aKB]at c;obtain⟨⟨ah,q⟩,hk⟩:=c;simp only[aJ]at he;split at he
  ·rename_i k m C n r u;have f:=(dk h ah r).kp;have l:=(dk h q u).kp;refine .value h hd he (v:=.int k (if k6=true then(if n>m then n else m)else(if n<m then n else m))) ?_ (.pure _ _ (.int _ _)) (pt _ _);rw[p];split at hk
   ·subst hk;simp[builtin,f,l,Builtin.max_,Builtin.max2]
   ·simp at hk;subst hk;simp[builtin,f,l,Builtin.min_,Builtin.min2]
   ·cases hk
  ·cases he
 ·cases c
def Mn(N:Nat)(o:Oper)(d:Nat)(x:aL):Bool:=cZ N o d&&(match o.op with|.nilCheck bK=>dJ bK x|_=>false)
theorem anr(h:Rel P gl N g s a w)(y:Mn N o d x=true)(he:aJ gl s (.hL d x)=some s'):eu P gl N o g a w s':=by
 simp only[Mn,aKB]at y;obtain⟨hd,l⟩:=y;split at l
 ·rename_i z aE;have m:∀b p,a.eval z=ptrTo b p->(execOp a.eval o).run P w=.ok (.value (ptrTo b p)) w:=by
   intro b p e;simp[execOp,aE,e,ptrTo]
  simp only[aJ]at he;split at he
  ·rename_i n;have A:z=.tmp n:=by unfold dJ at l;split at l<;>simp_all
   subst A;split at he
   ·rename_i cs c;obtain⟨b,f,k⟩:=h.env _ _ c;split at he
    ·rename_i q;simp at he;subst he;exact .addr h hd q c f (m _ _ (by simp[Act.eval,f]))
    ·cases he
   ·rename_i t off c;obtain⟨⟨cs,B⟩,b,f,k⟩:=h.env _ _ c;split at he
    ·rename_i q;simp at he;subst he;exact .addr h hd q B k (m _ _ (by simp[Act.eval,f]))
    ·cases he
   ·rename_i id off c;obtain⟨v,f,k,_⟩:=h.env _ _ c;obtain⟨b,r,u⟩:=k.tf;exact .value h hd he (m _ _ (by simp[Act.eval,f,u])) (u▸k) (vM _ _)
   ·rename_i cs c;obtain⟨v,f,k,_⟩:=h.env _ _ c;obtain⟨b,off,r,u⟩:=k.UE;exact .value h hd he (m _ _ (by simp[Act.eval,f,r])) (r▸k) (D8 _)
   ·cases he
  ·cases he
 ·cases l
theorem ans(f:Nat)(cs:List AV):cY (.fn f cs):=λ_ _ _ h=>by simp at h
def Mo(N:Nat)(o:Oper)(d f:Nat)(hb:List aL):Bool:=cZ N o d &&
 (match o.op with|.makeFunc (.func iS) first Ea=>iS==f&&first.size==0&&jX Ea.toList hb|_=>false)
theorem ant{f:Nat}{hb:List aL}(h:Rel P gl N g s a w)(m:Mo N o d f hb=true)(he:aJ gl s (.pq d f hb)=some s'):eu P gl N o g a w s':=by
 simp only[Mo,aKB]at m;obtain⟨hd,b⟩:=m;split at b
 ·rename_i p first c aE
  simp only[aKB,beq_iff_eq]at b;obtain⟨⟨rfl,r⟩,u⟩:=b;have k:first=#[]:=Array.eq_empty_of_size_eq_zero r
  subst k;obtain⟨vs,y,l⟩:=bind_some he;split at l
  ·have q:=(vF h u y).a1;refine .value h hd l (v:=.func (.func p) #[] (c.toList.map a.eval).toArray) ?_ (.fn _ _ _ q) (ans _ _);have e:(List.map a.eval c.toList).toArray=c.map a.eval:=by apply aKI;simp
   simp only[execOp,aE,Sem.run_bind,Instr.makeFunc,Sem.run_pure,Result.andThen_ok,e];simp
  ·cases l
 ·cases b
end
section
variable {P:Program}{gl:cQ}{N:Nat}{g g':bD}{s s':au}{a:Act}{w w':World}{o:Oper}
variable {b off:Nat}{v:Value}
theorem Bw(h:w.cell? ⟨b,off,none⟩=some v):b<w.heap.size:=by
 unfold World.cell? at h;cases ae:w.heap[b]? with
 |none=>simp[ae]at h|some x=>exact(Array.getElem?_eq_some_iff.1 ae).1
theorem UL(x:Obj)(h:w.cell? ⟨b,off,none⟩=some v):(w.alloc x).cell? ⟨b,off,none⟩=some v:=by
 have c:=Bw h;unfold World.cell? at h ⊢;rw[heap_alloc_old w x (h:=c)];exact h
theorem n4(w:World)(x:Obj):(w.alloc x).heap.size=w.heap.size+1:=by simp
def bD.jB(g:bD)(b:Nat)(ow:eW):bD:={ g with bO:=λk=>if k=b then ow else g.bO k }
theorem Rel.vQ(h:Rel P gl N g s a w)(off:Nat):g.γ w.heap.size off=none:=by
 cases c:g.γ w.heap.size off with
 |none=>rfl|some v=>have:=Bw (h.fI _ _ _ c);omega
theorem Rel.Eb(h:Rel P gl N g s a w):g.bO w.heap.size=.none:=by
 cases c:g.bO w.heap.size<;>first|rfl|(have:=h.own w.heap.size mt;omega)
theorem Rel.alloc(h:Rel P gl N g s a w)(x:Obj)(ow:eW) :
  eL g w (g.jB w.heap.size ow) (w.alloc x)/\Rel P gl N (g.jB w.heap.size ow) s a (w.alloc x):=by
 have c:GhLe g (g.jB w.heap.size ow):=⟨λ_ _ _ h=>h,λ_ _ h=>h⟩;have cG:∀b,g.bO b≠.none->b≠w.heap.size:=λb ae e=>by subst e;exact ae h.Eb
 have d:∀b,g.bO b≠.none->(g.jB w.heap.size ow).bO b=g.bO b/\(w.alloc x).heap[b]?=w.heap[b]?/\∀o,(g.jB w.heap.size ow).γ b o=g.γ b o:=λb ae =>
  ⟨by simp[bD.jB,cG b ae],heap_alloc_old w x (h:=h.own b ae),λ_=>rfl⟩
 refine⟨⟨c,λb ae=>?_,by rw[n4];omega,rfl,rfl⟩,h.step .none (lu.none s) c (λb ae=>d b ae.1) (λb off v f=>UL x (h.fI b off v f)) (λb ae=>?_) h.ga⟩
 ·grind
 ·by_cases e:b=w.heap.size
  ·rw[n4];omega
  ·simp[bD.jB,e]at ae;have:=h.own b ae;rw[n4];omega
variable {cs:List AV}{ws:List Value}
theorem jw.new{ow:eW}{oc:Nat->eW}{ty:TypeId}(f:∀off,g.γ w.heap.size off=none)(d:cS g cs ws)(j:∀v∈ws,v.oneCell'=true)
  (k:∀c∈cs,cY c):jw P (g.jB w.heap.size ow) (w.alloc (.cells ws.toArray ty)) w.heap.size ow oc cs:=by
 refine⟨ws.toArray,ty,heap_alloc_new w _,by simp[d.get.1],by simp[bD.jB],f,λi c al=>?_⟩;obtain⟨v,e,l⟩:=d.get.2 i c al;exact⟨v,by simpa using e,j v (aKJ e),l.mono (⟨λ_ _ _ h=>h,λ_ _ h=>h⟩:GhLe g (g.jB w.heap.size ow)),(k c (aKJ al)).gG⟩
def zu(P:Program)(e:TypeId)(z:List AV):Bool :=
 match P.info? e with
 |some i=>(match i.zero with|some v=>v.cells.size==z.length&&(v.cells.toList.zip z).all λ(v,x)=>Bn v x|none=>false)|none=>false
variable {e:TypeId}{z:List AV}
theorem Bx(h:zu P e z=true):∃i v,P.info? e=some i/\i.zero=some v/\cS g z v.cells.toList/\(∀u∈v.cells.toList,u.oneCell'=true)/\∀c∈z,cY c:=by
 unfold zu at h;split at h
 ·rename_i i al;split at h
  ·rename_i v p;simp only[aKB,beq_iff_eq]at h;obtain⟨n,q⟩:=h;have ar:∀(k:Nat)u c,v.cells.toList[k]?=some u->z[k]?=some c->dr g.γ c u/\u.oneCell'=true:=λk u c d f=>LU (LS (by simpa using n) q k u c d f);refine⟨i,v,al,p,.HI (by simpa using n) λk c u f d=>.pure _ _ (ar k u c d f).1,λu d=>?_,λc f=>?_⟩
   ·obtain⟨k,hk,j⟩:=aKQ d;have l:k<z.length:=by grind
    exact(ar k u z[k] (by rw[aKG hk,j]) (by simp[l])).2
   ·obtain⟨k,hk,m⟩:=aKQ f;have l:k<v.cells.toList.length:=by simp;omega
    have:=(ar k v.cells.toList[k] c (aKG l) (by rw[aKG hk,m])).1;intro e sz xs r;subst r;cases this
  ·cases h
 ·cases h
def Ec(P:Program)(N:Nat)(o:Oper)(d:Nat)(z:List AV):Bool:=cZ N o d&&(match o.op with|.alloc e=>zu P e z|_=>false)
theorem HO{i:TypeInfo}(al:P.info? e=some i)(c:i.zero=some v):(Instr.alloc e true (.tuple #[])).run P w=.ok (ptrTo w.heap.size 0) (w.alloc (.cells v.cells e)):=by
 simp[Instr.alloc,zeroValue,typeInfo,al,c,newVar,newRow,newObj,Sem.run,ptrTo]
variable {d:Nat}
theorem anx(h:Rel P gl N g s a w)(f:Ec P N o d z=true)(he:aJ gl s (.alloc d z)=some s'):eu P gl N o g a w s':=by
 simp only[Ec,aKB]at f;obtain⟨hd,c⟩:=f;split at c
 ·rename_i e aE;obtain⟨i,v,j,k,l,m,n⟩:=Bx (g:=g) c;simp only[aJ]at he;simp only[cZ,aKB,beq_iff_eq,decide_eq_true_eq]at hd;obtain⟨p,q⟩:=h.alloc (.cells v.cells e) (.eK d);refine⟨ptrTo w.heap.size 0,w.alloc (.cells v.cells e),g.jB w.heap.size (.eK d),.inl ?_,p,?_⟩
  ·simp only[execOp,aE,Sem.run_bind,HO j k,Result.andThen_ok,Sem.run_pure]
  ·rw[hd.1];refine q.lZ he hd.2 ?_;have:=jw.new (P:=P) (ow:=.eK d) (oc:=.fb d) (ty:=e) h.vQ l m n;simpa using this
 ·cases c
def xP(N:Nat)(o:Oper)(d:Nat)(x:aL):Bool:=cZ N o d&&(match o.op with|.box _ bK=>dJ bK x|_=>false)
theorem HP(e:TypeId)(v:Value):(Instr.box e v).run P w=.ok (ptrTo w.heap.size 0) (w.alloc (.cells v.cells e)):=by
 rfl
theorem uA :∀c∈cs.map AV.a1,cY c:=λc f=>by
 obtain⟨x,_,rfl⟩:=List.mem_map.1 f;exact cY.a1 x
variable {x:aL}
theorem anz(h:Rel P gl N g s a w)(i:xP N o d x=true)(he:aJ gl s (.box d x)=some s'):eu P gl N o g a w s':=by
 simp only[xP,aKB]at i;obtain⟨hd,c⟩:=i;split at c
 ·rename_i e j aE;obtain⟨u,k,f⟩:=bind_some he;split at f
  ·rename_i l;simp only[cZ,aKB,beq_iff_eq,decide_eq_true_eq]at hd;obtain⟨m,n⟩:=(dk h c k).cells l;obtain⟨p,q⟩:=h.alloc (.cells (a.eval j).cells e) (.eK d);refine⟨ptrTo w.heap.size 0,w.alloc (.cells (a.eval j).cells e),g.jB w.heap.size (.eK d),.inl ?_,p,?_⟩
   ·simp only[execOp,aE,Sem.run_bind,HP,Result.andThen_ok,Sem.run_pure]
   ·rw[hd.1];refine q.lZ f hd.2 ?_;have:=jw.new (P:=P) (ow:=.eK d) (oc:=.fb d) (ty:=e) h.vQ m.a1 n uA;simpa using this
  ·cases f
 ·cases c
theorem Rel.kc(h:Rel P gl N g s a w)(ty:TypeId)(m:cS g cs ws)(n:∀v∈ws,v.oneCell'=true)(p:∀c∈cs,cY c) :
  ∃g',eL g w g' (w.alloc (.cells ws.toArray ty))/\Rel P gl N g' { s with heap:=s.heap++[ay.cells cs] } a (w.alloc (.cells ws.toArray ty))/\g'.cg s.heap.length=some w.heap.size:=by
 obtain⟨q,i⟩:=h.alloc (.cells ws.toArray ty) (.bM s.heap.length);have ae:=jw.new (P:=P) (ow:=.bM s.heap.length) (oc:=.oc s.heap.length) (ty:=ty) h.vQ m n p;let j:bD:={ g.jB w.heap.size (.bM s.heap.length)with cg:=λid=>if id=s.heap.length then some w.heap.size else g.cg id }
 have f:GhLe (g.jB w.heap.size (.bM s.heap.length)) j:=⟨λ_ _ _ h=>h,λid b k=>by
  have:=h.ga id b k;simp[j,show id≠s.heap.length by omega];exact k⟩
 have hk:∀K,Kept (g.jB w.heap.size (.bM s.heap.length)) (w.alloc (.cells ws.toArray ty)) j (w.alloc (.cells ws.toArray ty)) K:=λK b _=>⟨rfl,rfl,λ_=>rfl⟩;refine⟨j,q.trans ⟨f,λb ae=>⟨ae,rfl,λ_=>rfl⟩,aKL _,rfl,rfl⟩,?_,by simp[j]⟩;refine⟨i.sorted,i.size,i.defers,λt e he=>(i.env t e he).kept f (hk λ_=>True) trivial trivial (λ_=>trivial),λid bM l=>?_,i.fI,i.own,i.hf,λid b k=>?_⟩
 ·simp only at l;rcases Nat.lt_trichotomy id s.heap.length with r|rfl|u
  ·rw[aKR r]at l;exact(i.heap id bM l).kept f (hk λ_=>True) (λ_=>trivial) (λ_=>trivial)
  ·simp at l;subst l;exact⟨w.heap.size,by simp[j],ae.kept f (hk λ_=>True) trivial (λ_=>trivial)⟩
  ·grind
 ·simp only[aKS,List.length_singleton];by_cases e:id=s.heap.length
  ·omega
  ·simp[j,e]at k;have:=h.ga id b k;omega
def Mp(P:Program)(N:Nat)(o:Oper)(d:Nat)(z:List AV):Bool:=Ec P N o d z
theorem anA(h:Rel P gl N g s a w)(f:Mp P N o d z=true)(he:aJ gl s (.kc d z)=some s'):eu P gl N o g a w s':=by
 simp only[Mp,Ec,aKB]at f;obtain⟨hd,c⟩:=f;split at c
 ·rename_i e aE;obtain⟨i,v,j,k,l,m,n⟩:=Bx (g:=g) c;simp only[aJ]at he;simp only[cZ,aKB,beq_iff_eq,decide_eq_true_eq]at hd;obtain⟨g',p,q,r⟩:=h.kc e l m n;refine⟨ptrTo w.heap.size 0,w.alloc (.cells v.cells e),g',.inl ?_,by simpa using p,?_⟩
  ·simp only[execOp,aE,Sem.run_bind,HO j k,Result.andThen_ok,Sem.run_pure]
  ·rw[hd.1];have:=q.put he hd.2 (.ptr _ 0 _ r) (vM _ _).gG;simpa[ptrTo]using this
 ·cases c
def Mq(N:Nat)(o:Oper)(d:Nat)(x:aL):Bool:=xP N o d x
theorem anB(h:Rel P gl N g s a w)(i:Mq N o d x=true)(he:aJ gl s (.s0 d x)=some s'):eu P gl N o g a w s':=by
 simp only[Mq,xP,aKB]at i;obtain⟨hd,c⟩:=i;split at c
 ·rename_i e j aE;obtain⟨u,k,f⟩:=bind_some he;split at f
  ·rename_i l;simp only[cZ,aKB,beq_iff_eq,decide_eq_true_eq]at hd;obtain⟨m,n⟩:=(dk h c k).cells l;obtain⟨g',p,q,r⟩:=h.kc e m.a1 n uA;refine⟨ptrTo w.heap.size 0,w.alloc (.cells (a.eval j).cells e),g',.inl ?_,by simpa using p,?_⟩
   ·simp only[execOp,aE,Sem.run_bind,HP,Result.andThen_ok,Sem.run_pure]
   ·rw[hd.1];have:=q.put f hd.2 (.ptr _ 0 _ r) (vM _ _).gG;simpa[ptrTo]using this
  ·cases f
 ·cases c
end
section
variable {P:Program}{gl:cQ}{N:Nat}{g g':bD}{s s':au}{a:Act}{w w':World}{o:Oper}
theorem Ed:∀(vs cs:List AV)(off:Nat),off+vs.length<=cs.length->setCells cs off vs=cs.take off++vs++cs.drop (off+vs.length)
 |[],cs,off,_=>by simp[setCells]|v::r,cs,off,h=>by
  simp only[aKT]at h;rw[setCells,Ed r (cs.set off v) (off+1) d9];have b:off<cs.length:=by omega
  apply List.ext_getElem?;intro i;simp only[List.getElem?_append,aKS,List.length_take,List.length_set,aKT,List.getElem?_take,aKM,List.getElem?_drop];rcases Nat.lt_trichotomy i off with al|rfl|al
  ·grind
  ·grind
  ·grind
theorem UM{α:Type}(l mid:List α)(off i:Nat)(h:off+mid.length<=l.length):(l.take off++mid++l.drop (off+mid.length))[i]?=if i<off then l[i]? else if i<off+mid.length then mid[i-off]? else l[i]?:=by grind
variable {b:Nat}{vs:List AV}{us:List Value}{off:Nat}
theorem jw.write{ow:eW}{oc:Nat->eW}{cs:List AV}(h:jw P g w b ow oc cs)(j:cS g vs us)(n:∀v∈us,v.oneCell'=true)
  (ae:off+vs.length<=cs.length)(aE:∀(i:Nat)c u,vs[i]?=some c->us[i]?=some u->fC P g w (oc (off+i)) c u)(cG:∀i,oc i≠ow) :
  ∃arr ty,w.heap[b]?=some (.cells arr ty (0,0))/\off+us.length<=arr.size /\
   jw P g (w.setRow b (arr.toList.take off++us++arr.toList.drop (off+us.length)).toArray) b ow oc (setCells cs off vs):=by
 obtain⟨arr,ty,l,B,m,p,C⟩:=h;have q:=j.get.1;have r:off+us.length<=arr.toList.length:=by simp;omega
 refine⟨arr,ty,l,am,_,ty,setRow_heap w b arr _ ty (0,0) l,?_,m,p,λi c d=>?_⟩
 ·rw[Ed _ _ _ ae];simp;omega
 ·rw[Ed _ _ _ ae,UM _ _ _ _ ae,<-q]at d;have t:∀{i:Nat}{c:AV}{v:Value},fC P g w (oc i) c v->fC P g (w.setRow b (arr.toList.take off++us++arr.toList.drop (off+us.length)).toArray) (oc i) c v:=by
   intro i c v x;refine x.kept (K:=λo=>o≠ow) ⟨λ_ _ _ h=>h,λ_ _ h=>h⟩ (λk hk=>⟨rfl,?_,λ_=>rfl⟩) (cG i);exact setRow_other w b k _ (λe=>hk (by rw[e,m]))
  rw[List.getElem?_toArray,UM _ _ _ _ r];by_cases y:i<off
  ·grind
  ·by_cases z:i<off+us.length
   ·simp only[y,z,if_true,if_false]at d ⊢;obtain⟨u,f,A⟩:=j.get.2 _ _ d;refine⟨u,f,n u (aKJ f),A,?_⟩;have:=t (aE _ _ _ d f);rwa[show off+(i-off)=i by omega]at this
   ·grind
theorem Mr{arr:Array Value}(ae:g.bO b≠.outer):eL g w g (w.setRow b arr) :=
 ⟨⟨λ_ _ _ h=>h,λ_ _ h=>h⟩,λk hk=>⟨hk,setRow_other w b k _ (λe=>ae (by rw[<-e,hk])),λ_=>rfl⟩,be,rfl,rfl⟩
variable {v:Value}{p:l0}
theorem Ms(h:Rel P gl N g s a w)(ar:Bt P g s a w v p)(E:cS g vs us)(q:∀v∈us,v.oneCell'=true)
  (aE:∀(i:Nat)c u,vs[i]?=some c->us[i]?=some u->match p with|.eK t off=>fC P g w (.fb t (off+i)) c u|.ar id off=>fC P g w (.oc id (off+i)) c u|.jV _=>False)
  (f:bb s vs p=some s'):∃b off w',v=ptrTo b off/\(storeCells ⟨b,off,none⟩ us).run P w=.ok () w'/\eL g w g w'/\Rel P gl N g s' a w':=by
 have F:∀(b:Nat)(arr:Array Value),(∀off,g.γ b off=none)->∀k off v,g.γ k off=some v->(w.setRow b arr).cell? ⟨k,off,none⟩=some v:=by
  intro b arr ae k off v hk;rw[cell_setRow_other w b arr _ (λe=>by simp only at e;rw[e,ae]at hk;cases hk)];exact h.fI _ _ _ hk
 cases p with
 |eK t off =>
  obtain⟨b,cs,m,D,R,O⟩:=ar;simp only[bb,m]at f;split at f
  ·rename_i ae;simp at f;subst f;have r:=O;obtain⟨arr,y,j,z,A⟩:=O.write E q ae aE (λi=>be);obtain⟨_,_,_,_,l,B,_⟩:=r;have n:=run_storeCells_at P b off y us 0 arr w j (by simpa using z) q;simp only[aKN]at n;refine⟨b,off,_,R,n,Mr (by rw[l];simp),Env.et.ins h.sorted t _,h.size,h.defers,λu e he=>?_,λid bM d=>?_,F b _ B,λk hk=>by simpa using h.own k hk,h.hf,h.ga⟩
   ·simp only at he ⊢;rw[Env.hW]at he;split at he
    ·rename_i G;subst G;simp at he;subst he;exact⟨b,D,A⟩
    ·rename_i G;have hk:Kept g w g (w.setRow b (arr.toList.take off++us++arr.toList.drop (off+us.length)).toArray) λo=>o≠.eK t :=
      λk hk=>⟨rfl,setRow_other w b k _ (λe=>hk (by rw[e,l])),λ_=>rfl⟩
     have H:=(h.env u e he).kept ⟨λ_ _ _ h=>h,λ_ _ h=>h⟩ hk be (by simp[G]) be;cases e with
     |v x=>exact H|b cs=>exact H|a S q9 =>
      obtain⟨⟨T,V⟩,W⟩:=H;refine⟨?_,W⟩;rw[Env.hW];by_cases e:S=t
      ·simp[e]
      ·simp[e,V]
   ·have hk:Kept g w g (w.setRow b (arr.toList.take off++us++arr.toList.drop (off+us.length)).toArray) λo=>o≠.eK t :=
     λk hk=>⟨rfl,setRow_other w b k _ (λe=>hk (by rw[e,l])),λ_=>rfl⟩
    exact(h.heap id bM d).kept ⟨λ_ _ _ h=>h,λ_ _ h=>h⟩ hk be be
  ·cases f
 |ar id off =>
  obtain⟨b,m,D⟩:=ar;simp only[bb]at f;split at f
  ·rename_i cs J;obtain⟨X,m1,C⟩:=h.heap _ _ J;rw[m]at m1;simp at m1;subst m1;split at f
   ·rename_i ae;simp at f;subst f;have r:=C;obtain⟨arr,y,j,z,A⟩:=C.write E q ae aE (λi=>be);obtain⟨_,_,_,_,l,B,_⟩:=r;have n:=run_storeCells_at P b off y us 0 arr w j (by simpa using z) q;simp only[aKN]at n;have hk:Kept g w g (w.setRow b (arr.toList.take off++us++arr.toList.drop (off+us.length)).toArray) λo=>o≠.bM id :=
     λk hk=>⟨rfl,setRow_other w b k _ (λe=>hk (by rw[e,l])),λ_=>rfl⟩
    refine⟨b,off,_,D,n,Mr (by rw[l];simp),h.sorted,h.size,h.defers,
     λu e he=>(h.env u e he).kept ⟨λ_ _ _ h=>h,λ_ _ h=>h⟩ hk be be be,λK bM d=>?_,F b _ B,λk hk=>by simpa using h.own k hk,h.hf,
     λi b al=>i9⟩
    simp only at d;rw[aKM]at d;split at d
    ·rename_i e;subst e;split at d
     ·simp at d;subst d;exact⟨b,m,A⟩
     ·cases d
    ·rename_i e;exact(h.heap K bM d).beside ⟨λ_ _ _ h=>h,λ_ _ h=>h⟩ hk (λh=>e h.symm) m (by simp[j]) be be
   ·cases f
  ·rename_i Y cs J;obtain⟨X,Z,m1,Mt,C,⟨L,Q,m4⟩,m5⟩:=h.heap _ _ J;rw[m]at m1;simp at m1;subst m1;split at f
   ·rename_i ae;simp at f;subst f;have r:=C;obtain⟨arr,y,j,z,A⟩:=C.write E q ae aE (λi=>be);obtain⟨_,_,_,_,l,B,_⟩:=r;have n:=run_storeCells_at P b off y us 0 arr w j (by simpa using z) q;simp only[aKN]at n;have hk:Kept g w g (w.setRow b (arr.toList.take off++us++arr.toList.drop (off+us.length)).toArray) λo=>o≠.bM id :=
     λk hk=>⟨rfl,setRow_other w b k _ (λe=>hk (by rw[e,l])),λ_=>rfl⟩
    refine⟨b,off,_,D,n,Mr (by rw[l];simp),h.sorted,h.size,h.defers,
     λu e he=>(h.env u e he).kept ⟨λ_ _ _ h=>h,λ_ _ h=>h⟩ hk be be be,λK bM d=>?_,F b _ B,λk hk=>by simpa using h.own k hk,h.hf,
     λi b al=>i9⟩
    simp only at d;rw[aKM]at d;split at d
    ·rename_i e;subst e;split at d
     ·simp at d;subst d;rw[Q]at j;simp at j;obtain⟨rfl,rfl⟩:=j;refine⟨b,Z,m,Mt,A,⟨_,setRow_heap w b L _ Y (0,0) Q,?_⟩,m5⟩;rw[<-m4];simp;omega
     ·cases d
    ·rename_i e;exact(h.heap K bM d).beside ⟨λ_ _ _ h=>h,λ_ _ h=>h⟩ hk (λh=>e h.symm) m (by simp[j]) be be
   ·cases f
  ·cases f
 |jV cs=>simp[bb]at f
def vR(P:Program)(o:Oper)(n:Nat)(x v:aL):Bool:=o.dst==none &&
 (match o.op with|.store t bK c6=>dJ bK x&&dJ c6 v&&(match P.info? t with|some i=>i.size==n|none=>false)|_=>false)
theorem Mu{t:TypeId}{i:TypeInfo}{u:Value}(al:P.info? t=some i)(c:u.cells.size=i.size)(d:(storeCells ⟨b,off,none⟩ u.cells.toList).run P w=.ok () w') :
  (Instr.storeAt t (ptrTo b off) u).run P w=.ok () w':=by
 simp[Instr.storeAt,Instr.sureAddr,ptrTo,storeVar,Go.sizeOf,typeInfo,al,c,d]
variable {x:aL}
theorem UN{n:Nat}{v:aL}(h:Rel P gl N g s a w)(d:vR P o n x v=true)(he:aJ gl s (.st n x v)=some s'):eu P gl N o g a w s':=by
 simp only[vR,aKB,beq_iff_eq]at d;obtain⟨hd,e⟩:=d;split at e
 ·rename_i t D j aE;simp only[aKB]at e;obtain⟨⟨ah,k⟩,hk⟩:=e;split at hk
  ·rename_i i al;simp at hk;obtain⟨p,l,he⟩:=bind_some he;obtain⟨u,m,he⟩:=bind_some he;split at he
   ·rename_i ae;obtain⟨E,q⟩:=ae;obtain⟨f,r⟩:=(dk h k m).cells q;obtain⟨b,off,w',y,z,A,B⟩:=Ms h (sa h ah l) f.a1 r (λi c u d F=>by
     have:=uA c (aKJ d);cases p with
     |eK t off=>exact this.gG|ar id off=>exact this.gG|jV cs=>simp[bb]at he) he
    have C:(a.eval j).cells.size=i.size:=by have:=f.get.1;simp at this;omega
    refine⟨undef,w',g,.inr ⟨?_,rfl⟩,A,?_⟩
    ·simp only[execOp,aE,Sem.run_bind,y,Mu al C z,Result.andThen_ok,Sem.run_pure]
    ·rw[hd];exact B
   ·cases he
  ·cases hk
 ·cases e
theorem Bt.mono(h:Bt P g s a w v p)(i:Rel P gl N g' s' a w')(f:GhLe g g')(he:∀t cs,s.env.get t=some (.b cs)->s'.env.get t=some (.b cs)):Bt P g' s' a w' v p:=by
 cases p with
 |eK t off =>
  obtain⟨b,cs,c,d,j,l⟩:=h;obtain⟨m,e,k⟩:=i.env _ _ (he _ _ c);rw[d]at e;simp[ptrTo]at e;subst e;exact⟨b,cs,he _ _ c,d,j,k⟩
 |ar id off=>obtain⟨b,c,d⟩:=h;exact⟨b,f.cg _ _ c,d⟩
 |jV cs=>obtain⟨b,off,c,d⟩:=h;exact⟨b,off,c,d.mono f.γ⟩
theorem anD{v:Nat}(h:Rel P gl N g s a w)(d:vR P o 1 x (.t v)=true)(he:aJ gl s (.ir x v)=some s'):eu P gl N o g a w s':=by
 simp only[vR,aKB,beq_iff_eq]at d;obtain⟨hd,k⟩:=d;split at k
 ·rename_i t bK G aE;simp only[aKB]at k;obtain⟨⟨ah,B⟩,hk⟩:=k;have H:G=.tmp v:=by unfold dJ at B;split at B<;>simp_all
  subst H;split at hk
  ·rename_i i al;simp at hk;obtain⟨p,J,he⟩:=bind_some he;split at he
   ·rename_i e sz xs m;obtain⟨s1,n,he⟩:=bind_some he;obtain⟨K,C⟩:=h.strip m;rw[K]at n;simp at n;subst n;obtain⟨u,L,D,q⟩:=h.env _ _ m;have O:lu { s with env:=s.env.ins v (.v (.list none sz xs)) } (.var v) :=
     ⟨λt z f r=>by simp at f;subst f;simp only[Env.hW]at r;simp at r;subst r;exact cY.none _ _,be,be,be,be,be⟩
    -- the owner that the address names
    have Q:∀y:eW,y≠.none->∃g',eL g w g' w/\Rel P gl N g' { s with env:=s.env.ins v (.v (.list none sz xs)) } a w/\fC P g' w y (.list (some e) sz xs) u:=by
     intro y _;cases ae:u.ownBlock with
     |none=>exact⟨g,eL.refl _ _,C,q.free ae⟩|some b =>
      obtain⟨oQ,z,vs,m1,m2,m3,m4,m5,m6,Ef,m7,R⟩:=q e sz xs rfl;obtain⟨j,l⟩:=C.pass (.var v) y O be (R b ae).1 be;exact⟨_,j,l,q.pass b ae⟩
    have A:u.cells.size=1/\u.cells.toList=[u]/\u.oneCell'=true:=by
     obtain⟨base,cap,rfl,_⟩:=D.zq;exact⟨rfl,rfl,rfl⟩
    have S:∀t cs,s.env.get t=some (.b cs)->({ s with env:=s.env.ins v (.v (.list none sz xs)) }:au).env.get t=some (.b cs):=by
     intro t cs f;simp only[Env.hW];have:t≠v:=by rintro rfl;rw[m]at f;simp at f
     simp[this,f]
    let y:eW:=match p with|.eK t off=>.fb t off|.ar id off=>.oc id off|.jV _=>.DZ
    obtain⟨g',j,l,E⟩:=Q y (by cases p<;>simp[y]);have T:=(sa h ah J).mono l j.toGhLe S;have V:cS g' [.list (some e) sz xs] [u]:=.cons _ _ _ _ (D.mono j.toGhLe) .nil;obtain⟨b,off,w',W,X,Y,Z⟩:=Ms l T V (by simp[A.2.2]) (λi c k9 d F=>by
     cases i with
     |zero =>
      simp at d F;subst d F;cases p with
      |eK t off=>simpa[y]using E|ar id off=>simpa[y]using E|jV cs=>simp[bb]at he
     |succ i=>simp at d) he
    refine⟨undef,w',g',.inr ⟨?_,rfl⟩,j.trans Y,?_⟩
    ·have ef:a.eval (.tmp v)=u:=by simp[Act.eval,L]
     simp only[execOp,aE,Sem.run_bind,W,ef,Mu al (by rw[A.1,hk]) (by rw[A.2.1];exact X),Result.andThen_ok,Sem.run_pure]
    ·rw[hd];exact Z
   ·cases he
  ·cases hk
 ·cases k
end
section
variable {P:Program}{gl:cQ}{N:Nat}{g g':bD}{s s':au}{a:Act}{w w':World}{o:Oper}
variable {b:Nat}{cs:List AV}{off sz:Nat}
theorem jw.strip{ow:eW}{oc:Nat->eW}{e:Nat}{xs:List AV}(h:jw P g w b ow oc cs)(m:cs[off]?=some (.list (some e) sz xs)) :
  jw P g w b ow oc (cs.set off (.list none sz xs))/\∃v,w.cell? ⟨b,off,none⟩=some v/\bn g (.list (some e) sz xs) v/\fC P g w (oc off) (.list (some e) sz xs) v:=by
 obtain⟨arr,d,f,n,p,q,j⟩:=h;obtain⟨v,k,r,l,t⟩:=j off _ m;refine⟨⟨arr,d,f,by simpa using n,p,q,λi c al=>?_⟩,v,by rw[cell_of_row w b off arr d (0,0) f];exact k,l,t⟩;rw[aKM]at al;split at al
 ·rename_i e;subst e;split at al
  ·simp at al;subst al;exact⟨v,k,r,l.a1,(cY.none _ _).gG⟩
  ·cases al
 ·exact j i c al
variable {x:AV}
theorem Mw(e:(cs.drop off).take 1=[x]):cs[off]?=some x:=by
 have:((cs.drop off).take 1)[0]?=some x:=by rw[e];rfl
 simpa[List.getElem?_take,List.getElem?_drop]using this
def Mx(P:Program)(N:Nat)(o:Oper)(d:Nat)(x:aL)(e sz:Nat):Bool:=xL P N o d x 1 false&&ko P e sz
theorem anE{d:Nat}{x:aL}{e0 oM:Nat}(h:Rel P gl N g s a w)(j:Mx P N o d x e0 oM=true)(he:aJ gl s (.je d x e0 oM)=some s'):eu P gl N o g a w s':=by
 simp only[Mx,xL,aKB]at j;obtain⟨⟨hd,V⟩,b9⟩:=j;split at V
 ·rename_i t bK aE;simp only[aKB]at V;obtain⟨⟨ah,fY⟩,hk⟩:=V;have W:∀b off v,a.eval bK=ptrTo b off->w.cell? ⟨b,off,none⟩=some v->(execOp a.eval o).run P w=.ok (.value v) w:=by
   intro b off v Y Z;simp only[execOp,aE,Sem.run_bind,Y];split at hk
   ·simp at hk
   ·simp at hk
   ·rename_i pv jz vL n1;rw[HK n1 ⟨λdC e=>jz dC e,λn e cB=>vL n e cB⟩ Z];rfl
   ·cases hk
  have A:=hd;simp only[cZ,aKB,beq_iff_eq,decide_eq_true_eq]at A;simp only[aJ]at he;obtain⟨p,h1,he⟩:=bind_some he;obtain⟨cs,k,he⟩:=bind_some he;split at he
  ·rename_i e sz xs;obtain⟨s1,m,a6⟩:=bind_some he;have HR:=sa h ah h1;cases p with
   |eK u off =>
    obtain⟨b,f,D,X,bP,c5⟩:=HR;simp only[bd,D]at k;simp only[bb,D]at m;split at k
    ·rename_i ae;simp at k;rw[if_pos ni]at m;simp at m;subst m;have B:=Mw k;obtain⟨J,v,E,K,F⟩:=c5.strip B;have C:setCells f off [.list none sz xs]=f.set off (.list none sz xs):=rfl;have O:Rel P gl N g { s with env:=s.env.ins u (.b (setCells f off [.list none sz xs])) } a w:=by
      refine⟨Env.et.ins h.sorted u _,h.size,h.defers,λt y L=>?_,h.heap,h.fI,h.own,h.hf,h.ga⟩;simp only at L ⊢;rw[Env.hW]at L;split at L
      ·rename_i q;subst q;simp at L;subst L;exact⟨b,X,by rw[C];exact J⟩
      ·rename_i q;have dT:=h.env t y L;cases y with
       |v y=>exact dT|b cs=>exact dT|a k9 q9 =>
        obtain⟨⟨aNJ,Q⟩,aw⟩:=dT;refine⟨?_,aw⟩;rw[Env.hW];by_cases e:k9=u
        ·simp[e]
        ·simp[e,Q]
     have R:lu { s with env:=s.env.ins u (.b (setCells f off [.list none sz xs])) } (.fb u off):=by
      refine⟨be,λt i cs c q l j=>?_,be,be,be,be⟩;simp at q;obtain⟨rfl,rfl⟩:=q;simp only[Env.hW]at l;simp at l;subst l;rw[C]at j;rw[aKU (by have:=(aKH.1 B).1;exact this)]at j;simp at j;subst j;exact cY.none _ _
     obtain⟨g',S,T⟩:=O.Bp R be be A.2 a6 K F ⟨e,sz,xs,rfl⟩;exact⟨v,w,g',.inl (W b off v bP E),S,by rw[A.1];exact T⟩
    ·cases k
   |ar id off =>
    obtain⟨b,D,X⟩:=HR;simp only[bd]at k;split at k
    ·rename_i f G;obtain⟨b5,m1,m2⟩:=h.heap _ _ G;rw[D]at m1;simp at m1;subst m1;split at k
     ·rename_i ae;simp at k;simp only[bb,G]at m;rw[if_pos ni]at m;simp at m;subst m;have B:=Mw k;obtain⟨J,v,E,K,F⟩:=m2.strip B;have C:setCells f off [.list none sz xs]=f.set off (.list none sz xs):=rfl;have tj:id<s.heap.length:=(aKH.1 G).1;have O:Rel P gl N g { s with heap:=s.heap.set id (.cells (setCells f off [.list none sz xs])) } a w:=by
       refine⟨h.sorted,h.size,h.defers,h.env,λH bM r=>?_,h.fI,h.own,h.hf,λi b al=>i9⟩;simp only at r;rw[aKM]at r;split at r
       ·rename_i e;subst e;simp at r;subst r;exact⟨b,D,by rw[C];exact J⟩
       ·exact h.heap H bM r
      have R:lu { s with heap:=s.heap.set id (.cells (setCells f off [.list none sz xs])) } (.oc id off):=by
       refine⟨be,be,λH i cs c q l j=>?_,λH i n es q l=>?_,be,be⟩
       ·simp at q;obtain⟨rfl,rfl⟩:=q;simp only at l;rw[aKU tj]at l;simp at l;subst l;rw[C]at j;rw[aKU (by have:=(aKH.1 B).1;exact this)]at j;simp at j;subst j;exact cY.none _ _
       ·grind
      obtain⟨g',S,T⟩:=O.Bp R be be A.2 a6 K F ⟨e,sz,xs,rfl⟩;exact⟨v,w,g',.inl (W b off v X E),S,by rw[A.1];exact T⟩
     ·cases k
    ·rename_i aH f G;obtain⟨b5,kk,m1,Mt,m2,m3⟩:=h.heap _ _ G;rw[D]at m1;simp at m1;subst m1;split at k
     ·rename_i ae;simp at k;simp only[bb,G]at m;rw[if_pos ni]at m;simp at m;subst m;have B:=Mw k;obtain⟨J,v,E,K,F⟩:=m2.strip B;have C:setCells f off [.list none sz xs]=f.set off (.list none sz xs):=rfl;have tj:id<s.heap.length:=(aKH.1 G).1;have O:Rel P gl N g { s with heap:=s.heap.set id (.buf aH (setCells f off [.list none sz xs])) } a w:=by
       refine⟨h.sorted,h.size,h.defers,h.env,λH bM r=>?_,h.fI,h.own,h.hf,λi b al=>i9⟩;simp only at r;rw[aKM]at r;split at r
       ·rename_i e;subst e;simp at r;subst r;exact⟨b,kk,D,Mt,by rw[C];exact J,m3⟩
       ·exact h.heap H bM r
      have R:lu { s with heap:=s.heap.set id (.buf aH (setCells f off [.list none sz xs])) } (.oc id off):=by
       refine⟨be,be,λH i cs c q l j=>?_,λH i n es q l=>?_,be,be⟩
       ·simp at q;obtain⟨rfl,rfl⟩:=q;simp only at l;rw[aKU tj]at l;simp at l;subst l;rw[C]at j;rw[aKU (by have:=(aKH.1 B).1;exact this)]at j;simp at j;subst j;exact cY.none _ _
       ·grind
      obtain⟨g',S,T⟩:=O.Bp R be be A.2 a6 K F ⟨e,sz,xs,rfl⟩;exact⟨v,w,g',.inl (W b off v X E),S,by rw[A.1];exact T⟩
     ·cases k
    ·cases k
   |jV f=>simp[bb]at m
  ·rename_i z;obtain⟨b,off,Y,⟨ws,J,E,K,F⟩,ev⟩:=UH h (sa h ah h1) k;cases E with
   |cons _ _ u us Q vG =>
    cases vG;have Z:=F 0 u be;have Q:=Q.uz;subst Q;refine⟨_,w,g,.inl (W b off _ Y (by simpa using Z)),.refl _ _,?_⟩;rw[A.1];exact h.put he A.2 (.own _ _ _ _ (.kn _ _ _ be)) (D1 b9 g w _)
  ·cases he
 ·cases V
variable {v:Value}
theorem bn.My(h:bn g x v)(ah:x.eH=true):dr g.γ x v:=by
 cases h with
 |pure _ _ h=>exact h|own=>simp[AV.eH]at ah|ptr=>simp[AV.eH]at ah|map=>simp[AV.eH]at ah|bI=>simp[AV.eH]at ah|lU=>simp[AV.eH]at ah|fn=>simp[AV.eH]at ah|agg=>simp[AV.eH]at ah|bg=>simp[AV.eH]at ah
theorem cS.Mz{ws:List Value}(h:cS g cs ws)(d:cs.all AV.eH=true)(f:∀v∈ws,v.oneCell'=true):fX g.γ cs ws:=by
 induction ws generalizing cs with
 |nil=>cases h;exact .nil|cons w ws ih=>cases h with
  |cons c cs _ _ e i =>
   simp only[List.all_cons,aKB]at d;exact .cons _ _ _ _ (f w be) (e.My d.1) (ih i d.2 λv e=>f v (by simp[e]))
theorem bn.MA(h:bn g x v)(ah:x.pure=true):dr g.γ x v:=by
 by_cases c:∃cs,x=.agg cs
 ·obtain⟨cs,rfl⟩:=c;obtain⟨ws,rfl,d,e⟩:=h.oP;exact .agg _ _ (d.Mz (by simpa[AV.pure]using ah) e)
 ·refine h.My ?_;cases x<;>first|exact ah|simp_all
def bD.l4(g:bD)(b:Nat)(arr:Array Value):bD:={ g with γ:=λk off=>if k=b then arr[off]? else g.γ k off,bO:=λk=>if k=b then .DZ else g.bO k }
theorem Rel.MB(h:Rel P gl N g s a w)(arr:Array Value)(ty:TypeId) :
  eL g w (g.l4 w.heap.size arr) (w.alloc (.cells arr ty))/\Rel P gl N (g.l4 w.heap.size arr) s a (w.alloc (.cells arr ty)):=by
 have d:GhLe g (g.l4 w.heap.size arr):=⟨λb off v c=>by
  have:b≠w.heap.size:=λe=>by subst e;rw[h.vQ]at c;cases c
  simp[bD.l4,this,c],λ_ _ h=>h⟩
 have cG:∀b,g.bO b≠.none->b≠w.heap.size:=λb ae e=>by subst e;exact ae h.Eb
 have f:∀b,g.bO b≠.none->(g.l4 w.heap.size arr).bO b=g.bO b/\(w.alloc (.cells arr ty)).heap[b]?=w.heap[b]?/\∀o,(g.l4 w.heap.size arr).γ b o=g.γ b o:=λb ae =>
  ⟨by simp[bD.l4,cG b ae],heap_alloc_old w _ b (h.own b ae),λ_=>by simp[bD.l4,cG b ae]⟩
 refine⟨⟨d,λb ae=>?_,by rw[n4];omega,rfl,rfl⟩,h.step .none (lu.none s) d (λb ae=>f b ae.1) (λb off v c=>?_) (λb ae=>?_) h.ga⟩
 ·grind
 ·by_cases e:b=w.heap.size
  ·subst e;simp[bD.l4]at c;rw[cell_of_row _ _ _ arr ty (0,0) (heap_alloc_new w _)];exact c
  ·simp[bD.l4,e]at c;exact UL _ (h.fI b off v c)
 ·by_cases e:b=w.heap.size
  ·rw[n4];omega
  ·simp[bD.l4,e]at ae;have:=h.own b ae;rw[n4];omega
variable {γ:fA}
theorem fB.HS :∀{cs:List AV}{ws:List Value}{off:Nat},fX γ cs ws->(∀(i:Nat)v,ws[i]?=some v->γ b (off+i)=some v)->fB γ b off cs
 |[],_,_,.nil,_=>.nil _ _|c::cs,_,off,.cons _ _ v ws h1 d e,h=>.cons _ _ _ _ v (by simpa using h 0 v be) h1 d (fB.HS e λi u f=>by
   have:=h (i+1) u nq;rw[<-this];congr 1;omega)
theorem fa.Eg :∀{xs:List AV}{rows:List (List Value)}{off:Nat},xs.length=rows.length ->
  (∀(i:Nat)x r,xs[i]?=some x->rows[i]?=some r->x.cells.length=sz/\fX γ x.cells r/\r.length=sz)->(∀(i:Nat)v,rows.flatten[i]?=some v->γ b (off+i)=some v)->fa γ b off sz xs
 |[],_,_,_,_,_=>.nil _ _ _|x::xs,[],_,h,_,_=>by simp at h|x::xs,r::rows,off,h,c,d=>by
  obtain⟨f,j,l⟩:=c 0 x r be be;refine .cons _ _ _ _ _ f (fB.HS j λi v e=>d i v ?_) (fa.Eg (rows:=rows) f8 (λi x r ah k=>c (i+1) x r nf (by simpa using k)) λi v e=>?_)
  ·grind
  ·have:=d (sz+i) v (by rw[aK2,aK3 am];rw[<-e];congr 1;omega);rw[<-this];congr 1;omega
theorem dr.cells(h:dr γ x v):fX γ x.cells v.cells.toList:=by
 cases h with
 |agg cs ws h=>simpa[AV.cells,Value.cells]using h|bool b=>exact .cons _ _ _ _ rfl (.bool b) .nil|int k n=>exact .cons _ _ _ _ rfl (.int k n) .nil|str l h=>exact .cons _ _ _ _ rfl (.str l h) .nil|fl=>exact .cons _ _ _ _ rfl .fl .nil|ha=>exact .cons _ _ _ _ rfl .ha .nil|k4=>exact .cons _ _ _ _ rfl .k4 .nil|k5=>exact .cons _ _ _ _ rfl .k5 .nil|aS sz=>exact .cons _ _ _ _ rfl (.aS sz) .nil|cL b off cs h=>exact .cons _ _ _ _ rfl (.cL b off cs h) .nil|kn sz base cap h=>exact .cons _ _ _ _ rfl (.kn sz base cap h) .nil|hK sz base cap=>exact .cons _ _ _ _ rfl (.hK sz base cap) .nil|list b off cap sz xs h1 c d=>exact .cons _ _ _ _ rfl (.list b off cap sz xs h1 c d) .nil
theorem HT(off:Nat):∀(us:List Value)(k:Nat)(A:Array Value),off+k+us.length<=A.size ->
  ((us.zipIdx k).foldl (λcs(c,j)=>cs.setIfInBounds (off+j) c) A).toList=A.toList.take (off+k)++us++A.toList.drop (off+k+us.length)
 |[],k,A,_=>by simp|u::us,k,A,h=>by
  simp only[aKT]at h;rw[List.zipIdx_cons,List.foldl_cons,HT off us (k+1) _ d9];have e:=list_seg_step A.toList (off+k) u us d9;simpa[Array.toList_setIfInBounds,Nat.add_assoc]using e
theorem UO(size:Nat):∀(vs:List Value)(k:Nat)(A:Array Value),(∀v∈vs,v.cells.size=size)->A.size=(k+vs.length)*size ->
  ∃B,Instr.fill (λi=>some (i*size,size)) A ((vs.zipIdx k).map λ(v,i)=>(i,v))=some B/\B.toList=A.toList.take (k*size)++(vs.map (·.cells.toList)).flatten
 |[],k,A,_,h=>⟨A,by simp[Instr.fill],by simp at h ⊢;rw[List.take_of_length_le d9]⟩|v::vs,k,A,m,h=>by
  have e:=m v be;have n:k*size+size<=A.size:=by
   rw[h];simp[aKC]
  have f:=HT (k*size) v.cells.toList 0 A d9;simp only[aKN]at f;have cE:(v.cells.zipIdx.foldl (λcs(c,j)=>cs.setIfInBounds (k*size+j) c) A)=(v.cells.toList.zipIdx.foldl (λcs(c,j)=>cs.setIfInBounds (k*size+j) c) A):=by
   rw[<-Array.foldl_toList];simp
  have l:(v.cells.toList.zipIdx.foldl (λcs(c,j)=>cs.setIfInBounds (k*size+j) c) A).size=A.size:=by
   rw[<-aKV,f];simp[e];omega
  have d:(k+1+vs.length)*size=(k+(v::vs).length)*size:=by congr 1;simp;omega
  obtain⟨B,p,q⟩:=UO size vs (k+1) (v.cells.zipIdx.foldl (λcs(c,j)=>cs.setIfInBounds (k*size+j) c) A) (λu r=>m u (by simp[r])) (by
   rw[cE,l,h,d])
  refine⟨B,?_,?_⟩
  ·simp only[List.zipIdx_cons,aKF,Instr.fill];rw[if_neg (by simp[e];omega)];exact p
  ·rw[q,cE,f,List.take_left' (by simp[e,aKC];omega)];simp
end
section
variable {P:Program}{gl:cQ}{N:Nat}{g g':bD}{s s':au}{a:Act}{w w':World}{o:Oper}
def zv(P:Program)(t e sz:Nat):Bool :=
 match P.underlying t with
 |some (.slice cB)=>cB==e&&ko P e sz|_=>false
variable {e sz:Nat}
theorem ra(h:ko P e sz=true):∃i z,P.info? e=some i/\i.size=sz/\0<sz/\i.zero=some z/\z.cells.size=sz/\i.bytes<=128:=by
 unfold ko at h;split at h
 ·grind
 ·cases h
theorem Eh{t:Nat}(h:zv P t e sz=true):P.underlying t=some (.slice e)/\ko P e sz=true:=by
 unfold zv at h;split at h
 ·grind
 ·cases h
def MC(n:Nat)(ps:List (Nat×Operand)):Bool:=(ps.map (·.1))==List.range n
def HU(P:Program)(t sz:Nat):Bool :=
 match P.underlying t with
 |some (.slice e)=>ko P e sz&&decide (sz<=1000)|_=>false
def Bz(P:Program)(N:Nat)(o:Oper)(d sz:Nat)(xs:List aL):Bool:=cZ N o d &&
 (match o.op with|.buildSlice t n ps=>n==xs.length&&MC n ps.toList&&jX (ps.toList.map (·.2)) xs&&HU P t sz|_=>false)
theorem MD{n:Nat}{ps:List (Nat×Operand)}(h:MC n ps=true)(f:Operand->Value) :
  ps.map (λ(i,x)=>(i,f x))=((ps.map (·.2)).map f).zipIdx.map λ(v,i)=>(i,v):=by
 simp only[MC,beq_iff_eq]at h;apply List.ext_getElem?;intro i;have al:(ps.map (·.1))[i]?=(List.range n)[i]?:=by rw[h]
 simp only[List.getElem?_map,List.getElem?_zipIdx,aKD]at al ⊢;cases ar:ps[i]? with
 |none=>simp|some p=>grind
theorem HV{t e:TypeId}{i:TypeInfo}{z:Value}{vs:List Value}(d:P.underlying t=some (.slice e))(al:P.info? e=some i)(f:i.zero=some z)
  (ax:0<i.size)(j:∀v∈vs,v.cells.size=i.size)(q:vs.length*i.size<=2 ^ 24) :
  (Instr.buildSlice t vs.length (vs.zipIdx.map λ(v,i)=>(i,v)).toArray).run P w =
   .ok (.slice (some ⟨w.heap.size,0,none⟩) vs.length vs.length) (w.alloc (.cells (vs.map (·.cells.toList)).flatten.toArray e)):=by
 have cE:((Array.range (vs.length*i.size)).map (z.cells[· % z.cells.size]!)).size=(0+vs.length)*i.size:=by simp
 obtain⟨B,k,b⟩:=UO i.size vs 0 _ j cE;simp only[Nat.zero_mul,List.take_zero,List.nil_append]at b;have fN:B=(vs.map (·.cells.toList)).flatten.toArray:=by apply aKI;simpa using b
 have l:¬(vs.length*i.size>2 ^ 24):=by omega
 simp only[Instr.buildSlice,Sem.run_bind,run_underlying d,Result.andThen_ok,Go.sizeOf,typeInfo,run_program,al,Sem.run_pure,Sem.run_ite,l,if_false];by_cases c:vs.length*i.size=0
 ·have m:vs=[]:=by
   rcases Nat.mul_eq_zero.1 c with h|h
   ·exact aKP h
   ·omega
  subst m;have n:Array.range 0=#[]:=rfl;simp[newRow,newObj,Sem.run,Instr.fill,n]
 ·rw[if_neg c];have p:(List.map (λ(x:Value×Nat)=>(x.2,x.1)) vs.zipIdx)=vs.zipIdx.map λ(v,i)=>(i,v):=rfl;simp only[zeroValue,typeInfo,Sem.run_bind,run_program,al,Result.andThen_ok,Sem.run_pure,f];simp only[p,k];simp[newRow,newObj,Sem.run,fN]
theorem anG{d:Nat}{xs:List aL}(h:Rel P gl N g s a w)(B:Bz P N o d sz xs=true)(he:aJ gl s (.lit d sz xs)=some s'):eu P gl N o g a w s':=by
 simp only[Bz,aKB]at B;obtain⟨hd,j⟩:=B;split at j
 ·rename_i t n l aE;simp only[aKB,beq_iff_eq]at j;obtain⟨⟨⟨rfl,J⟩,p⟩,hk⟩:=j;unfold HU at hk;split at hk
  ·rename_i e K;simp only[aKB,decide_eq_true_eq]at hk;obtain⟨L,hp⟩:=hk;obtain⟨i,z,O,b8,c8,Q,gP,hA⟩:=ra L;obtain⟨vs,R,q⟩:=bind_some he;split at q
   ·rename_i ae;simp only[aKB,decide_eq_true_eq,aKK,beq_iff_eq]at ae;obtain⟨S,T⟩:=ae;have C:=vF h p R;have D:(l.map λ(i,x)=>(i,a.eval x))=(((l.toList.map (·.2)).map a.eval).zipIdx.map λ(v,i)=>(i,v)).toArray:=by
     rw[<-MD J a.eval];apply aKI;simp
    have E:xs.length=((l.toList.map (·.2)).map a.eval).length:=by
     simp only[jX,aKB,beq_iff_eq]at p;rw[aKE];exact p.1.symm
    generalize (l.toList.map (·.2)).map a.eval=us at C D E;have c:=C.get
    -- the concrete elements
    have F:∀(k:Nat)x v,vs[k]?=some x->us[k]?=some v->dr g.γ x.a1 v/\x.a1.cells.length=sz/\v.cells.size=sz:=by
     intro k x v ah f;obtain⟨V,W⟩:=S x (aKJ ah);obtain⟨G,b,u⟩:=c.2 k x ah;rw[f]at b;simp at b;subst b;have ar:=u.a1.MA V;have X:x.a1.cells.length=sz:=by
      have:x.a1.cells.length=x.cells.length:=by cases x<;>rfl
      rw[this];exact W
     refine⟨ar,X,?_⟩;have Y:=ar.cells;have:∀{cs:List AV}{ws:List Value},fX g.γ cs ws->ws.length=cs.length:=by
      intro cs ws H;induction ws generalizing cs with
      |nil=>cases H;rfl|cons w ws ih=>cases H with|cons _ _ _ _ _ _ Z=>simp[ih Z]
     have:=this Y;simp at this;omega
    have HW:∀v∈us,v.cells.size=i.size:=by
     intro v f;obtain⟨k,kq,gH⟩:=aKQ f;have gb:k<vs.length:=by have:=c.1;omega
     have:=(F k vs[k] v (by simp[gb]) (by rw[aKG kq,gH])).2.2;omega
    have cT:=HV (P:=P) (w:=w) K O Q am HW (by
     have h1:us.length<=1000:=by rw[c.1];exact T
     calc _<=1000*1000:=aK4 h1 am
      _<=2 ^ 24:=by decide)
    obtain⟨b,u⟩:=h.MB (us.map (·.cells.toList)).flatten.toArray e;refine⟨.slice (some ⟨w.heap.size,0,none⟩) us.length us.length,_,_,.inl ?_,b,?_⟩
    ·simp only[execOp,aE,Sem.run_bind];rw[D,E,cT];rfl
    ·simp only[cZ,aKB,beq_iff_eq,decide_eq_true_eq]at hd;rw[hd.1];refine u.put q hd.2 (.pure _ _ ?_) (cY.none _ _).gG;refine .Bv (by rw[aKE];exact c.1) (by simp;unfold M;omega) (by rw[aKE];omega) ?_;refine fa.Eg (rows:=us.map (·.cells.toList)) (by rw[aKE,aKE];exact c.1.symm) (λk x r ah m=>?_) λk v f=>by simpa[bD.l4]using f
     rw[List.getElem?_map]at ah m;cases y:vs[k]? with
     |none=>simp[y]at ah|some bK =>
      cases A:us[k]? with
      |none=>simp[A]at m|some G =>
       simp[y]at ah;simp only[A,aKZ,Option.some.injEq]at m;subst ah m;obtain⟨m1,m2,m3⟩:=F k bK G y A;exact⟨m2,(m1.mono b.γ).cells,by simpa using m3⟩
   ·cases q
  ·cases hk
 ·cases j
end
section
variable {P:Program}{gl:cQ}{N:Nat}{g g':bD}{s s':au}{a:Act}{w w':World}{o:Oper}
variable {α β:Type}{f:α->Sem β}{h:α->β}
theorem UP :∀{xs:List α},(∀x∈xs,(f x).run P w=.ok (h x) w)->(xs.mapM f).run P w=.ok (xs.map h) w
 |[],_=>by simp|x::xs,ah=>by
  have b:=ah x be;have c:=UP (xs:=xs) λy d=>ah y (by simp[d]);simp only[List.mapM_cons,Sem.run_bind,b,Result.andThen_ok,c,Sem.run_pure,aKF]
theorem anH{xs:Array α}(ah:∀x∈xs.toList,(f x).run P w=.ok (h x) w):(xs.mapM f).run P w=.ok (xs.map h) w:=by
 rw[Array.mapM_eq_mapM_toList,Sem.run_map,UP ah];simp only[Result.andThen_ok];congr 1
 apply aKI;simp
variable {xs:List AV}{us:List Value}
theorem cS.append{ys:List AV}{vs:List Value}(h:cS g xs us)(b:cS g ys vs):cS g (xs++ys) (us++vs):=by
 induction us generalizing xs with
 |nil=>cases h;exact b|cons u us ih=>cases h with|cons _ _ _ _ h1 c=>exact .cons _ _ _ _ h1 (ih c)
theorem cS.take(h:cS g xs us)(n:Nat):cS g (xs.take n) (us.take n):=by
 induction us generalizing xs n with
 |nil=>cases h;simpa using cS.nil|cons u us ih=>cases h with
  |cons _ _ _ _ h1 b=>cases n with
   |zero=>exact .nil|succ n=>exact .cons _ _ _ _ h1 (ih b n)
theorem cS.drop(h:cS g xs us)(n:Nat):cS g (xs.drop n) (us.drop n):=by
 induction us generalizing xs n with
 |nil=>cases h;simpa using cS.nil|cons u us ih=>cases h with
  |cons _ _ _ _ h1 b=>cases n with
   |zero=>exact .cons _ _ _ _ h1 b|succ n=>exact ih b n
def UQ(P:Program)(dC:Array Field)(i off n:Nat):Bool :=
 match dC[i]? with
 |some f=>f.offset==off&&(match P.info? f.type with|some j=>j.size==n|none=>false)|none=>false
def BA(P:Program)(dC:Array Field):List (Nat×Operand)->List (Nat×Nat×aL)->Bool
 |[],[]=>true|(i,bK)::r,(off,n,x)::r'=>UQ P dC i off n&&dJ bK x&&BA P dC r r'|_,_=>false
def UR(P:Program)(t:TypeId)(ps:List (Nat×Operand))(parts:List (Nat×Nat×aL)):Bool :=
 match P.underlying t with
 |some (.struct dC)=>dC.toList.all (λf=>(P.info? f.type).isSome)&&BA P dC ps parts|_=>false
def BB(sz:Nat):List (Nat×Operand)->List (Nat×Nat×aL)->Bool
 |[],[]=>true|(i,bK)::r,(off,n,x)::r'=>off==i*sz&&n==sz&&dJ bK x&&BB sz r r'|_,_=>false
def US(P:Program)(t:TypeId)(ps:List (Nat×Operand))(parts:List (Nat×Nat×aL)):Bool :=
 match P.underlying t with
 |some (.array _ e)=>(match P.info? e with|some i=>BB i.size ps parts|none=>false)|_=>false
def MF(P:Program)(N:Nat)(o:Oper)(d:Nat)(z:List AV)(parts:List (Nat×Nat×aL)):Bool:=cZ N o d &&
 (match o.op with|.build t ps=>zu P t z&&(UR P t ps.toList parts||US P t ps.toList parts)|_=>false)
theorem UT(h:Rel P gl N g s a w)(q:Array Field)(b:Array (Nat×Nat))(y:∀(i:Nat)f,q[i]?=some f->b[i]?=some (f.offset,P.cellsOf f.type)) :
  ∀(parts:List (Nat×Nat×aL))(ps:List (Nat×Operand))(cs cs':List AV)(A:Array Value),BA P q ps parts=true->oL gl s.env cs parts=some cs'->cS g cs A.toList->(∀v∈A.toList,v.oneCell'=true) ->
   ∃B,Instr.fill (b[·]?) A (ps.map λ(i,x)=>(i,a.eval x))=some B/\cS g cs' B.toList/\∀v∈B.toList,v.oneCell'=true
 |[],ps,cs,cs',A,ar,e,l,h1=>by
  cases ps with
  |cons=>simp[BA]at ar|nil=>simp[oL]at e;subst e;exact⟨A,rfl,l,h1⟩
 |(off,n,x)::parts,ps,cs,cs',A,ar,e,l,h1=>by
  cases ps with
  |nil=>simp[BA]at ar|cons p ps =>
   obtain⟨i,k⟩:=p;simp only[BA,aKB]at ar;obtain⟨⟨d,G⟩,H⟩:=ar;unfold UQ at d;split at d
   ·rename_i f r;simp only[aKB,beq_iff_eq]at d;obtain⟨rfl,d⟩:=d;split at d
    ·rename_i j J;simp at d;have z:=y i f r;have K:P.cellsOf f.type=n:=by simp[Program.cellsOf,J,d]
     rw[K]at z;simp only[oL]at e;split at e
     ·rename_i u L;split at e
      ·rename_i ae;obtain⟨O,Q,R⟩:=ae;obtain⟨C,W⟩:=(dk h G L).cells R;have D:A.toList.length=cs.length:=l.get.1;have E:(a.eval k).cells.size=n:=by have:=C.get.1;simp at this;omega
       have t:=HT f.offset (a.eval k).cells.toList 0 A (by simp at D ⊢;omega);simp only[aKN]at t;have cE:((a.eval k).cells.zipIdx.foldl (λcs(c,j)=>cs.setIfInBounds (f.offset+j) c) A)=((a.eval k).cells.toList.zipIdx.foldl (λcs(c,j)=>cs.setIfInBounds (f.offset+j) c) A):=by
        rw[<-Array.foldl_toList];simp
       have F:(u.cells.map AV.a1).length=n:=by simpa using O
       obtain⟨B,S,T,V⟩:=UT h q b y parts ps _ cs' ((a.eval k).cells.zipIdx.foldl (λcs(c,j)=>cs.setIfInBounds (f.offset+j) c) A) H e (by
        rw[cE,t,Ed _ _ _ (by rw[F];exact Q),F];have:(a.eval k).cells.toList.length=n:=by simpa using E
        rw[this];exact((l.take _).append C.a1).append (l.drop _)) (by
        rw[cE,t];intro v m;rcases List.mem_append.1 m with m|m
        ·grind
        ·exact h1 v (List.mem_of_mem_drop m))
       refine⟨B,?_,T,V⟩;simp only[aKF,Instr.fill,z];rw[if_neg (by simp[E];simp at D;omega)];exact S
      ·cases e
     ·cases e
    ·cases d
   ·cases d
theorem UW(h:Rel P gl N g s a w)(sz:Nat):∀(parts:List (Nat×Nat×aL))(ps:List (Nat×Operand))(cs cs':List AV)(A:Array Value),BB sz ps parts=true->oL gl s.env cs parts=some cs'->cS g cs A.toList->(∀v∈A.toList,v.oneCell'=true) ->
   ∃B,Instr.fill (λi=>some (i*sz,sz)) A (ps.map λ(i,x)=>(i,a.eval x))=some B/\cS g cs' B.toList/\∀v∈B.toList,v.oneCell'=true
 |[],ps,cs,cs',A,ar,b,e,h1=>by
  cases ps with
  |cons=>simp[BB]at ar|nil=>simp[oL]at b;subst b;exact⟨A,rfl,e,h1⟩
 |(off,n,x)::parts,ps,cs,cs',A,ar,b,e,h1=>by
  cases ps with
  |nil=>simp[BB]at ar|cons p ps =>
   obtain⟨i,d⟩:=p;simp only[BB,aKB,beq_iff_eq]at ar;obtain⟨⟨⟨rfl,rfl⟩,y⟩,z⟩:=ar;simp only[oL]at b;split at b
   ·rename_i u C;split at b
    ·rename_i ae;obtain⟨D,E,F⟩:=ae;obtain⟨m,K⟩:=(dk h y C).cells F;have q:A.toList.length=cs.length:=e.get.1;have r:(a.eval d).cells.size=n:=by have:=m.get.1;simp at this;omega
     have l:=HT (i*n) (a.eval d).cells.toList 0 A (by simp at q ⊢;omega);simp only[aKN]at l;have cE:((a.eval d).cells.zipIdx.foldl (λcs(c,j)=>cs.setIfInBounds (i*n+j) c) A)=((a.eval d).cells.toList.zipIdx.foldl (λcs(c,j)=>cs.setIfInBounds (i*n+j) c) A):=by
      rw[<-Array.foldl_toList];simp
     have t:(u.cells.map AV.a1).length=n:=by simpa using D
     obtain⟨B,G,H,J⟩:=UW h n parts ps _ cs' ((a.eval d).cells.zipIdx.foldl (λcs(c,j)=>cs.setIfInBounds (i*n+j) c) A) z b (by
      rw[cE,l,Ed _ _ _ (by rw[t];exact E),t];have:(a.eval d).cells.toList.length=n:=by simpa using r
      rw[this];exact((e.take _).append m.a1).append (e.drop _)) (by
      rw[cE,l];intro v k;rcases List.mem_append.1 k with k|k
      ·grind
      ·exact h1 v (List.mem_of_mem_drop k))
     refine⟨B,?_,H,J⟩;simp only[aKF,Instr.fill];rw[if_neg (by simp[r];simp at q;omega)];exact G
    ·cases b
   ·cases b
theorem anJ{d:Nat}{z:List AV}{parts:List (Nat×Nat×aL)}(h:Rel P gl N g s a w)(D:MF P N o d z parts=true)(he:aJ gl s (.build d z parts)=some s'):eu P gl N o g a w s':=by
 simp only[MF,aKB]at D;obtain⟨hd,c⟩:=D;split at c
 ·rename_i t b aE;simp only[aKB]at c;obtain⟨K,hk⟩:=c;obtain⟨i,E,F,G,H,J,R⟩:=Bx (g:=g) K;rcases Bool.or_eq_true _ _▸hk with hk|hk
  rotate_left
  ·unfold US at hk;split at hk
   ·rename_i m e l;split at hk
    ·rename_i j n;obtain⟨cs,p,q⟩:=bind_some he;obtain⟨B,r,u,y⟩:=UW h j.size parts b.toList z cs E.cells hk p H J;refine .value h hd q (v:=.agg B) ?_ (by have:=bn.agg cs B.toList u y;simpa using this) (λ_ _ _ h=>f9);have A:(b.map λ(i,x)=>(i,a.eval x)).toList=b.toList.map λ(i,x)=>(i,a.eval x):=by simp
     simp only[execOp,aE,Sem.run_bind,Instr.build,zeroValue,typeInfo,run_program,F,Result.andThen_ok,Sem.run_pure,G,run_underlying l,Go.sizeOf,n,A,r]
    ·cases hk
   ·cases hk
  unfold UR at hk;split at hk
  ·rename_i k l;simp only[aKB,aKK]at hk;obtain⟨L,O⟩:=hk;obtain⟨cs,p,q⟩:=bind_some he;have Q:(k.mapM λf=>do pure (f.offset,<-Go.sizeOf f.type):Sem (Array (Nat×Nat))).run P w=.ok (k.map λf=>(f.offset,P.cellsOf f.type)) w:=by
    refine anH λf C=>?_;obtain⟨j,n⟩:=Option.isSome_iff_exists.1 (L f C);simp[Go.sizeOf,typeInfo,n,Program.cellsOf]
   obtain⟨B,r,u,y⟩:=UT h k (k.map λf=>(f.offset,P.cellsOf f.type)) (λi f C=>by simp[C]) parts b.toList z cs E.cells O p H J;refine .value h hd q (v:=.agg B) ?_ (by have:=bn.agg cs B.toList u y;simpa using this) (λ_ _ _ h=>f9);have A:(b.map λ(i,x)=>(i,a.eval x)).toList=b.toList.map λ(i,x)=>(i,a.eval x):=by simp
   simp only[execOp,aE,Sem.run_bind,Instr.build,zeroValue,typeInfo,run_program,F,Result.andThen_ok,Sem.run_pure,G,run_underlying l,Q,A,r]
  ·cases hk
 ·cases c
def MH(P:Program)(N:Nat)(o:Oper)(d:Nat)(c:aL)(e sz:Nat):Bool:=cZ N o d &&
 (match o.op with|.makeSlice t (.const (.int .i64 0)) iP=>dJ iP c&&zv P t e sz|_=>false)
variable {n:Int}
theorem wrap_small(c:0<=n)(b:n<=M):IntKind.i64.wrap n=n:=by
 unfold M at b;have:IntKind.i64.wrap n=n:=by
  simp[IntKind.wrap,IntKind.bits,IntKind.signed];omega
 exact this
theorem run_makeSlice{t e:TypeId}{i:TypeInfo}{z:Value}{k:IntKind}(d:P.underlying t=some (.slice e))(al:P.info? e=some i)(j:i.zero=some z)
  (ae:i.bytes<=128)(b:0<=n)(l:n<=M) :
  ∃arr:Array Value,arr.size=n.toNat*i.size/\(Instr.makeSlice t (.int .i64 0) (.int k n)).run P w=.ok (.slice (some ⟨w.heap.size,0,none⟩) 0 n.toNat) (w.alloc (.cells arr e)):=by
 refine⟨(Array.range (n.toNat*i.size)).map ((if n.toNat*i.size=0 then #[]else z.cells)[· % (if n.toNat*i.size=0 then #[]else z.cells).size]!),be,?_⟩;have m:=wrap_small b l;have p:IntKind.i64.wrap 0=0:=by decide
 have v:(M:Int)=1099511627776:=rfl;have x:((i.bytes:Nat):Int)*n<=128*1099511627776:=by
  have y:((i.bytes:Nat):Int)*n<=128*n:=Int.mul_le_mul_of_nonneg_right am b;omega
 have q:¬(n<0\/((i.bytes:Nat):Int)*n>2 ^ 48):=by grind
 have A:n.toNat*i.bytes<=roomBytes:=by
  have:((n.toNat*i.bytes:Nat):Int)=((i.bytes:Nat):Int)*n:=by grind
  have B:roomBytes=140737488355328:=by decide
  omega
 have r:¬(n<0):=by omega
 have u:¬(((i.bytes:Nat):Int)*n>2 ^ 48):=λh=>q (.inr h);simp only[Instr.makeSlice,Sem.run_bind,run_underlying d,Result.andThen_ok,asInt,asIntOf,Sem.run_pure,typeInfo,run_program,al,m,p];simp only[r,u,decide_false,Bool.or_false,aKY,if_false,Int.lt_irrefl,Bool.false_or];by_cases c:n.toNat*i.size=0
 ·simp[askRoom,show ¬n.toNat*i.bytes>roomBytes by omega,Go.sizeOf,typeInfo,al,c,newRow,newObj,Sem.run]
 ·simp[askRoom,show ¬n.toNat*i.bytes>roomBytes by omega,Go.sizeOf,typeInfo,al,c,newRow,newObj,Sem.run,zeroValue,j]
end
section
variable {P:Program}{gl:cQ}{N:Nat}{g g':bD}{s s':au}{a:Act}{w w':World}{o:Oper}
variable {sz:Nat}
theorem anK{d e:Nat}{c:aL}(h:Rel P gl N g s a w)(j:MH P N o d c e sz=true)(he:aJ gl s (.r3 d c e sz)=some s'):eu P gl N o g a w s':=by
 simp only[MH,aKB]at j;obtain⟨hd,f⟩:=j;split at f
 ·rename_i t G aE;simp only[aKB]at f;obtain⟨ah,hk⟩:=f;obtain⟨v,hk⟩:=Eh hk;obtain⟨i,z,l,m,x,p,y,q⟩:=ra hk;simp only[aJ]at he;split at he
  ·rename_i k n A;split at he
   ·rename_i ae;have B:=(dk h ah A).kp;obtain⟨arr,m1,C⟩:=run_makeSlice (P:=P) (w:=w) (k:=k) v l p q ae.1 ae.2;simp only[cZ,aKB,beq_iff_eq,decide_eq_true_eq]at hd;obtain⟨D,E⟩:=h.alloc (.cells arr e) (.var d);refine⟨.slice (some ⟨w.heap.size,0,none⟩) 0 n.toNat,_,_,.inl ?_,D,?_⟩
    ·have F:a.eval (.const (.int .i64 0))=.int .i64 0:=rfl;simp only[execOp,aE,Sem.run_bind,B,F,C];rfl
    ·rw[hd.1];refine E.put he hd.2 (.own _ _ _ _ (.kn _ _ _ be)) ?_;intro H J xs r;simp at r;obtain⟨rfl,rfl,rfl⟩:=r;refine⟨i,z,[],l,m,x,p,y,q,be,World.ownsRow_made w arr n.toNat (aKW _) (by have:=ae.2;unfold M at this;unfold maxLen;omega) (by rw[m1,m]),λb u=>?_⟩;simp[Value.ownBlock]at u;subst u;exact⟨by simp[bD.jB],.nil _ _ _,λoff _=>h.vQ off⟩
   ·cases he
  ·cases he
 ·cases f
variable {t ty e:TypeId}{i:TypeInfo}{v:Value}{n:Nat}{xs:List Value}
theorem HY{z:Value}(A:P.underlying t=some (.slice e))(al:P.info? e=some i)(E:i.zero=some z)(J:z.cells.size=i.size)
  (q:w.ownsRow 0 e i.size v n xs){ad:Addr}{m c:Nat}{news:List Value}(r:news.length=m*i.size)
  (B:∀j u,news[j]?=some u->w.cell? (ad.add j)=some u)(K:∀u∈news,u.oneCell'=true)(hm:0<m)(L:n+m<=M)(ae:i.bytes<=128) :
  ∃y w',(Builtin.append_ #[t,t] ty #[v,.slice (some ad) m c]).run P w=.ok y w'/\w'.ownsRow 0 e i.size y (n+m) (xs++news)/\w.heap.size<=w'.heap.size /\
   ((y.ownBlock=v.ownBlock/\v.ownBlock≠none/\∀k,some k≠v.ownBlock->w'.heap[k]?=w.heap[k]?)\/(y.ownBlock=some w.heap.size/\w.heap.size<w'.heap.size/\∀k,k<w.heap.size->w'.heap[k]?=w.heap[k]?))/\((w'.os,w'.tape)=(w.os,w.tape)/\w'.output=w.output):=by
 unfold M at L;have F:(n+m)*i.bytes<=140737488355328:=by
  calc (n+m)*i.bytes<=1099511627776*128:=aK4 am ae
   _=140737488355328:=by decide
 have O:n+m<=maxLen:=by unfold maxLen;omega
 have b:(xs++news).length=(n+m)*i.size:=by rw[aKS,q.1,r,aKC]
 have d:∀(f:Nat),f<n+m ->
   (w.drew.alloc (.cells (xs.toArray++news.toArray++Builtin.zeroCells z.cells (grownCap w (n+m) f e-(n+m))) e)).ownsRow 0 e i.size
    (.slice (some ⟨w.heap.size,0,none⟩) (n+m) (grownCap w (n+m) f e)) (n+m) (xs++news):=by
  intro f aE;have Q:=grownCap_ge w (n+m) f e;have C:grownCap w (n+m) f e<=maxLen:=grownCap_le_maxLen w (n+m) f e O;refine⟨b,.inr ⟨w.heap.size,_,_,rfl,aKW _,heap_alloc_new w.drew _,Q,C,?_,?_⟩⟩
  ·simp only[Array.size_append,List.size_toArray,size_zeroCells,J,q.1,r,<-aKC];congr 1;omega
  ·grind
 rcases q.2 with⟨rfl,rfl⟩|⟨g,cap,l,rfl,V,G,W,C,R,S⟩
 ·have ah:xs=[]:=aKP (by simpa using q.1);subst ah;have x:=run_append_nil (P:=P) w t ty e i z A al E ad m c news r B hm am (by simp only[aKD]at F;omega);have H:=d 0 am;simp only[aKD,List.nil_append,Array.empty_append]at H ⊢;exact⟨_,_,x,H,lc,.inr ⟨rfl,lc,λk hk=>heap_alloc_old w.drew _ (h:=hk)⟩,rfl,rfl⟩
 ·by_cases D:n+m<=cap
  ·have T:n*i.size+news.length<=l.size:=by rw[r,R,<-aKC];exact aK7 _ D
   have x:=run_append_room (P:=P) w t ty e i A al g n cap l G ad m c news r B K D T;refine⟨_,_,x,⟨b,.inr ⟨g,cap,_,rfl,aKW _,setRow_heap w g l _ e _ G,D,C,?_,?_⟩⟩,be,.inl ⟨rfl,by simp[Value.ownBlock],λk hk=>setRow_other w g k _ (λe=>hk (by simp[Value.ownBlock,e]))⟩,rfl,rfl⟩
   ·grind
   ·rw[S,<-b];exact List.take_left
  ·have p:∀j u,xs[j]?=some u->w.cell? ((⟨g,0,none⟩:Addr).add j)=some u:=q.cells (g:=g) rfl;have x:=run_append_grow (P:=P) w t ty e i z A al E ⟨g,0,none⟩ n cap xs q.1 p ad m c news r B am am (growslice_fits am F);exact⟨_,_,x,d cap am,lc,.inr ⟨rfl,lc,λk hk=>heap_alloc_old w.drew _ (h:=hk)⟩,rfl,rfl⟩
theorem UX(b:P.underlying t=some (.slice e))(al:P.info? e=some i)(d:w.ownsRow 0 e i.size v n xs)(base:Option Addr)(c:Nat) :
  (Builtin.append_ #[t,t] ty #[v,.slice base 0 c]).run P w=.ok v w:=by
 have ae:∀(s:Option Addr)(k cap:Nat),k<=cap->(Builtin.append_ #[t,t] ty #[.slice s k cap,.slice base 0 c]).run P w=.ok (.slice s k cap) w:=by
  intro s k cap hk;cases base<;>cases s<;>simp[Builtin.append_,run_underlying b,Go.sizeOf,typeInfo,al,Builtin.lenOf,hk,Builtin.firstCells,loadCells,loadCellsFrom,storeCells]
 rcases d.2 with⟨rfl,rfl⟩|⟨g,cap,f,rfl,j,l,h,m,p,q⟩
 ·exact ae none 0 0 am
 ·exact ae _ n cap h
variable {γ:fA}
theorem fB.nw :∀{cs:List AV}{b off:Nat},fB γ b off cs->∃us:List Value,us.length=cs.length/\fX γ cs us/\(∀v∈us,v.oneCell'=true)/\∀j u,us[j]?=some u->γ b (off+j)=some u
 |[],_,_,_=>⟨[],rfl,.nil,be,be⟩|c::cs,b,off,.cons _ _ _ _ v h1 f h k=>by
  obtain⟨us,l,m,p,q⟩:=fB.nw k;refine⟨v::us,by simp[l],.cons _ _ _ _ f h m,by simpa[f]using p,λj u d=>?_⟩;cases j with
  |zero=>simp at d;subst d;exact h1|succ j=>have:=q j u mQ;rw[<-this];congr 1;omega
theorem fa.nw :∀{xs:List AV}{b off:Nat},fa γ b off sz xs->∃rows:List (List Value),xs.length=rows.length /\
  (∀(i:Nat)x r,xs[i]?=some x->rows[i]?=some r->x.cells.length=sz/\fX γ x.cells r/\r.length=sz)/\(∀r∈rows,∀v∈r,v.oneCell'=true) /\
  rows.flatten.length=xs.length*sz/\∀j u,rows.flatten[j]?=some u->γ b (off+j)=some u
 |[],_,_,_=>⟨[],rfl,be,be,be,be⟩|x::xs,b,off,.cons _ _ _ _ _ h1 c d=>by
  obtain⟨f,h,p,q,z⟩:=c.nw;obtain⟨rows,k,A,B,l,C⟩:=fa.nw d;refine⟨f::rows,by simp[k],λi y r D m=>?_,λr m v E=>?_,by simp[l,h,h1,aKC,Nat.add_comm],λj u F=>?_⟩
  ·grind
  ·grind
  ·grind
theorem fX.mono{b:fA}(h:xH γ b):∀{cs:List AV}{ws:List Value},fX γ cs ws->fX b cs ws
 |[],_,.nil=>.nil|_::_,_,.cons _ _ _ _ h1 c d=>.cons _ _ _ _ h1 (c.mono h) (fX.mono h d)
theorem fa.append{b:Nat}:∀{xs ys:List AV}{off:Nat},fa γ b off sz xs->fa γ b (off+xs.length*sz) sz ys->fa γ b off sz (xs++ys)
 |[],ys,off,_,h=>by simpa using h|x::xs,ys,off,.cons _ _ _ _ _ h1 c d,h=>.cons _ _ _ _ _ h1 c (fa.append d (by
   have:off+(x::xs).length*sz=off+sz+xs.length*sz:=by simp[aKC];omega
   rwa[this]at h))
end
section
variable {P:Program}{gl:cQ}{N:Nat}{g g':bD}{s s':au}{a:Act}{w w':World}{o:Oper}
def bD.app(g:bD)(b:Nat)(cells:List Value)(ow:eW):bD :=
 { g with γ:=λk off=>if k=b then cells[off]? else g.γ k off,bO:=λk=>if k=b then ow else g.bO k }
variable {e sz:Nat}{xs:List AV}{v:Value}
theorem fC.cells(h:Rel P gl N g s a w){ow:eW}(aE:fC P g w ow (.list (some e) sz xs) v) :
  ∃i z vs,P.info? e=some i/\i.size=sz/\0<sz/\i.zero=some z/\z.cells.size=sz/\i.bytes<=128/\w.ownsRow 0 e sz v xs.length vs /\
   (∀b,v.ownBlock=some b->g.bO b=ow/\∀off,g.γ b off=vs[off]?) /\
   (∀m n,(xH g.γ m)->(∀j u,vs[j]?=some u->m n j=some u)->fa m n 0 sz xs):=by
 obtain⟨i,z,vs,J,K,L,O,Q,R,vC,d,B⟩:=aE e sz xs rfl;refine⟨i,z,vs,J,K,L,O,Q,R,d,λb ae=>?_,λm n p S=>?_⟩
 ·obtain⟨C,q,D⟩:=B b ae;refine⟨C,λoff=>?_⟩;obtain⟨c,E,F,T,G,t⟩:=q.nw;by_cases V:off<xs.length*sz
  ·have y:c.flatten[off]?=some (c.flatten[off]' am):=aKG am;have f:=t off _ y;rw[aKD]at f;have A:=h.fI _ _ _ f;have l:vs[off]?=some (vs[off]'(by rw[d.1];exact V)):=aKG _;have:=d.cells ae off _ l;rw[n0,aKD,A]at this;rw[f,l];exact this
  ·rw[D off am,aK8 (by rw[d.1];omega)]
 ·cases ae:v.ownBlock with
  |none =>
   rcases d.2 with⟨_,W⟩|⟨k,cap,X,rfl,_⟩
   ·rw[aKP W];exact .nil _ _ _
   ·simp[Value.ownBlock]at ae
  |some b =>
   obtain⟨C,q,D⟩:=B b ae;obtain⟨c,E,F,T,G,t⟩:=q.nw;refine fa.Eg E (λk x r ah y=>?_) λj u H=>?_
   ·obtain⟨m1,Y,Z⟩:=F k x r ah y;exact⟨m1,Y.mono p,Z⟩
   ·have f:=t j u H;rw[aKD]at f ⊢;have A:=h.fI _ _ _ f;have a8:j<vs.length:=by rw[d.1,<-G];exact(aKH.1 H).1
    have l:vs[j]?=some vs[j]:=aKG a8;have:=d.cells ae j _ l;rw[n0,aKD,A]at this;exact S j u (by rw[l];exact this.symm)
theorem HZ(s:au)(x sz:Nat)(xs:List AV):lu { s with env:=s.env.ins x (.v (.list none sz xs)) } (.var x) :=
 ⟨λt z c b=>by simp at c;subst c;simp only[Env.hW]at b;simp at b;subst b;exact cY.none _ _,be,be,be,be,be⟩
def H0(P:Program)(N:Nat)(o:Oper)(d u:Nat)(x:aL)(e sz:Nat):Bool:=cZ N o d &&
 (match th o.op with|some (.append,[.tmp k9,bK],[t,jY])=>k9==u&&t==jY&&dJ bK x&&zv P t e sz|_=>false)
theorem bn.MJ{y:AV}(h:bn g y v)(c:y.ju=some (sz,xs)) :
  ∃base cap,v=.slice base xs.length cap/\(xs.length<=M/\xs.length<=cap)/\(xs=[]\/∃b off,base=some ⟨b,off,none⟩/\fa g.γ b off sz xs):=by
 unfold AV.ju at c;split at c
 ·simp at c;obtain⟨rfl,rfl⟩:=c;exact h.zq
 ·simp at c;obtain⟨rfl,rfl⟩:=c;exact⟨none,0,h.uz,be,.inl rfl⟩
 ·simp at c;obtain⟨rfl,rfl⟩:=c;obtain⟨base,cap,d⟩:=h.Ma;exact⟨some base,cap,d,be,.inl rfl⟩
 ·cases c
variable {d u:Nat}
theorem UY{ys:List AV}{A:Value}{i:TypeInfo}{z:Value}{vs:List Value}{rows:List (List Value)}(h:Rel P gl N g s a w)(nZ:lu s (.var u))
  (bT:P.info? e=some i)(c8:0<i.size)(dU:i.zero=some z)(gP:z.cells.size=i.size)(hA:i.bytes<=128)(Y:w.ownsRow 0 e i.size v xs.length vs)
  (Z:∀b,v.ownBlock=some b->g.bO b=.var u/\∀off,g.γ b off=vs[off]?)(xS:∀J l,(xH g.γ J)->(∀j y,vs[j]?=some y->J l j=some y)->fa J l 0 i.size xs)
  (m1:ys.length=rows.length)(m2:∀(k:Nat)x r,ys[k]?=some x->rows[k]?=some r->x.cells.length=i.size/\fX g.γ x.cells r/\r.length=i.size)
  (bw:xs.length+ys.length<=M)(C:w'.ownsRow 0 e i.size A (xs.length+ys.length) (vs++rows.flatten))(er:w.heap.size<=w'.heap.size)(gQ:(w'.os,w'.tape)=(w.os,w.tape)/\w'.output=w.output)
  (K:(A.ownBlock=v.ownBlock/\v.ownBlock≠none/\∀k,some k≠v.ownBlock->w'.heap[k]?=w.heap[k]?)\/(A.ownBlock=some w.heap.size/\w.heap.size<w'.heap.size/\∀k,k<w.heap.size->w'.heap[k]?=w.heap[k]?))
  (ho:o.dst=some d/\d<N)(aR:s.put d (.list (some e) i.size (xs++ys))=some s')(cT:(execOp a.eval o).run P w=.ok (.value A) w'):eu P gl N o g a w s':=by
 have f:∃c,A.ownBlock=some c:=by
  rcases K with⟨n,gR,_⟩|⟨n,_⟩
  ·cases E:v.ownBlock with
   |none=>exact absurd E gR|some b=>exact⟨b,by rw[n,E]⟩
  ·exact⟨_,n⟩
 obtain⟨c,f⟩:=f
 -- the ghost grows
 have D:∀l q y,g.γ l q=some y->l=c->v.ownBlock=some c:=by
  intro l q y m e;subst e;rcases K with⟨n,_⟩|⟨n,_⟩
  ·rw[<-n,f]
  ·rw[n]at f;simp at f;subst f;rw[h.vQ]at m;cases m
 have p:GhLe g (g.app c (vs++rows.flatten) (.var d)):=⟨λl q y m=>by
  by_cases e:l=c
  ·have E:=D _ _ _ m e;subst e;simp only[bD.app,if_true];rw[(Z _ E).2]at m;rw[aKR (aKH.1 m).1];exact m
  ·simp[bD.app,e,m],λ_ _ F=>F⟩
 have nx:g.bO c=.none\/g.bO c=.var u:=by
  rcases K with⟨n,_⟩|⟨n,_⟩
  ·right;exact(Z c (by rw[<-n,f])).1
  ·left;rw[n]at f;simp at f;subst f;exact h.Eb
 have t:∀k,k≠c->k<w.heap.size->w'.heap[k]?=w.heap[k]?:=by grind
 have UZ:∀k,g.bO k≠.none->g.bO k≠.var u->(g.app c (vs++rows.flatten) (.var d)).bO k=g.bO k/\w'.heap[k]?=w.heap[k]?/\∀o,(g.app c (vs++rows.flatten) (.var d)).γ k o=g.γ k o:=by
  intro k hX hp;have cG:k≠c:=λe=>by subst e;rcases nx with F|F<;>simp[F]at hX hp
  exact⟨by simp[bD.app,cG],t k cG (h.own k hX),λ_=>by simp[bD.app,cG]⟩
 have Ek:=C.cells f;have L:∀l q y,(g.app c (vs++rows.flatten) (.var d)).γ l q=some y->w'.cell? ⟨l,q,none⟩=some y:=by
  intro l q y m;by_cases e:l=c
  ·subst e;simp only[bD.app,if_true]at m;have:=Ek q y m;rwa[n0,aKD]at this
  ·simp[bD.app,e]at m;have G:=h.fI _ _ _ m;unfold World.cell? at G ⊢;rw[t l e (Bw (h.fI _ _ _ m))];exact G
 have cm:=h.step (g':=g.app c (vs++rows.flatten) (.var d)) (w':=w') (.var u) nZ p (λk hk=>UZ k hk.1 hk.2) L (λk hk=>by
  by_cases e:k=c
  ·subst e;have:=C.lt k f;exact this.2
  ·simp[bD.app,e]at hk;have:=h.own k hk;omega) h.ga
 have O:eL g w (g.app c (vs++rows.flatten) (.var d)) w':=⟨p,λk hk=>by
  obtain⟨Q,R,S⟩:=UZ k (by rw[hk];simp) (by rw[hk];simp);exact⟨Q.trans hk,R,S⟩,er,gQ.1,gQ.2⟩
 -- the new list
 have T:fa (g.app c (vs++rows.flatten) (.var d)).γ c 0 i.size xs:=xS _ c p.γ λj u H=>by
  simp only[bD.app,if_true];rw[aKR (aKH.1 H).1];exact H
 have V:fa (g.app c (vs++rows.flatten) (.var d)).γ c (0+xs.length*i.size) i.size ys:=by
  refine fa.Eg m1 (λk x r ah aw=>?_) λj u H=>?_
  ·obtain⟨Q,R,S⟩:=m2 k x r ah aw;exact⟨Q,R.mono p.γ,S⟩
  ·simp only[bD.app,if_true];rw[aKD,aK3 (by rw[Y.1];omega),Y.1];rw[<-H];congr 1;omega
 have fc:=fa.append T V;have ey:∃B,A=.slice (some ⟨c,0,none⟩) (xs.length+ys.length) B/\xs.length+ys.length<=B:=by
  rcases C.2 with⟨rfl,_⟩|⟨k,B,cur,rfl,_,_,G,_⟩
  ·simp[Value.ownBlock]at f
  ·simp[Value.ownBlock]at f;subst f;exact⟨B,rfl,G⟩
 obtain⟨B,rfl,W⟩:=ey;refine⟨.slice (some ⟨c,0,none⟩) (xs.length+ys.length) B,w',_,.inl cT,O,?_⟩;rw[ho.1];refine cm.put aR ho.2 (.own _ _ _ _ (.Bv be (by simpa using bw) (by simpa using W) fc)) ?_;intro cB dW iD Bu;simp at Bu;obtain⟨rfl,rfl,rfl⟩:=Bu;refine⟨i,z,vs++rows.flatten,bT,rfl,c8,dU,gP,hA,by simpa using bw,by simpa using C,λl X=>?_⟩;rw[f]at X;simp at X;subst X;refine⟨by simp[bD.app],fc,λoff zm=>?_⟩;simp only[bD.app,if_true];rw[aK8];rw[C.1];simpa using zm
theorem anQ{x:aL}(h:Rel P gl N g s a w)(af:H0 P N o d u x e sz=true)(he:aJ gl s (.app d u x e sz)=some s'):eu P gl N o g a w s':=by
 simp only[H0,aKB]at af;obtain⟨hd,K⟩:=af;split at K
 ·rename_i L bK t jY aE;obtain⟨xK,O⟩:=vI (o:=o) aE rfl a.eval;simp only[aKB,beq_iff_eq]at K;obtain⟨⟨⟨rfl,rfl⟩,ah⟩,hk⟩:=K;obtain⟨Q,hk⟩:=Eh hk;have f:=hd;simp only[cZ,aKB,beq_iff_eq,decide_eq_true_eq]at f;simp only[aJ]at he;split at he
  ·rename_i cB dW xs nX q ax k;obtain⟨y,k,S⟩:=bind_some k;split at he
   ·rename_i ae;obtain⟨rfl,rfl,rfl,T,A⟩:=ae;obtain⟨s1,V,W⟩:=bind_some he;obtain⟨an,a6⟩:=h.strip ax;rw[an]at V;simp at V;subst V;obtain⟨v,X,B,R⟩:=h.env _ _ ax;obtain⟨i,z,vs,l,Y,Z,C,D,E,m,vX,xS⟩:=fC.cells h R;obtain⟨base,cap,F,av,n⟩:=bn.MJ (dk h ah k) S;have G:a.eval (.tmp L)=v:=by simp[Act.eval,X]
    subst Y;by_cases H:q=[]
    ·subst H;have p:=UX (P:=P) (w:=w) (ty:=o.type) Q l m base cap;simp only[List.append_nil]at W;obtain⟨g',m1,J⟩:=a6.Bp (HZ _ _ _ _) be be f.2 W B R ⟨_,_,_,rfl⟩;refine⟨v,w,g',.inl ?_,m1,by rw[f.1];exact J⟩;rw[O];simp only[builtin,aKF,List.map_nil,G,F,List.length_nil,Sem.run_bind,p,Result.andThen_ok,Sem.run_pure]
    ·rcases n with n|⟨b,off,rfl,bG⟩
     ·exact absurd n H
     obtain⟨rows,m1,J,m3,m4,m5⟩:=bG.nw;have sc:∀j u,rows.flatten[j]?=some u->w.cell? ((⟨b,off,none⟩:Addr).add j)=some u:=λj u a8=>by rw[n0];exact h.fI _ _ _ (m5 j u a8)
     have mI:∀u∈rows.flatten,u.oneCell'=true:=λu n1=>by
      obtain⟨r,p,MK⟩:=aK5.1 n1;exact m3 r p u MK
     have oU:0<q.length:=by grind
     obtain⟨c6,w',cF,cO,er,eo,gQ⟩:=HY (P:=P) (w:=w) (ty:=o.type) (c:=cap) Q l C D m m4 sc mI oU A E;refine UY (rows:=rows) a6 (HZ _ _ _ _) l Z C D E m vX xS m1 J A cO er gQ eo f W ?_;rw[O];simp only[builtin,aKF,List.map_nil,G,F,Sem.run_bind,cF,Result.andThen_ok,Sem.run_pure]
   ·cases he
  ·rename_i dW nX q ax k;obtain⟨y,k,S⟩:=bind_some k;split at he
   ·rename_i ae;obtain⟨rfl,rfl,T,A⟩:=ae;obtain⟨v,X,B,_⟩:=h.env _ _ ax;have B:=B.uz;subst B;have R:=D1 hk g w (.var L);have nZ:lu s (.var L):=⟨λt z aB bS=>by simp at aB;subst aB;rw[ax]at bS;simp at bS;subst bS;exact λ_ _ _ h=>f9,be,be,be,be,be⟩;obtain⟨i,z,vs,l,Y,Z,C,D,E,m,vX,xS⟩:=fC.cells h R;obtain⟨base,cap,F,av,n⟩:=bn.MJ (dk h ah k) S;have G:a.eval (.tmp L)=.slice none 0 0:=by simp[Act.eval,X]
    subst Y;by_cases H:q=[]
    ·subst H;have p:=UX (P:=P) (w:=w) (ty:=o.type) Q l m base cap;refine⟨.slice none 0 0,w,g,.inl ?_,.refl _ _,by rw[f.1];exact h.put he f.2 (.own _ _ _ _ (.kn _ _ _ be)) (D1 hk g w _)⟩;rw[O];simp only[builtin,aKF,List.map_nil,G,F,List.length_nil,Sem.run_bind,p,Result.andThen_ok,Sem.run_pure]
    ·rcases n with n|⟨b,off,rfl,bG⟩
     ·exact absurd n H
     obtain⟨rows,m1,J,m3,m4,m5⟩:=bG.nw;have sc:∀j u,rows.flatten[j]?=some u->w.cell? ((⟨b,off,none⟩:Addr).add j)=some u:=λj u a8=>by rw[n0];exact h.fI _ _ _ (m5 j u a8)
     have mI:∀u∈rows.flatten,u.oneCell'=true:=λu n1=>by
      obtain⟨r,p,MK⟩:=aK5.1 n1;exact m3 r p u MK
     have oU:0<q.length:=by grind
     obtain⟨c6,w',cF,cO,er,eo,gQ⟩:=HY (P:=P) (w:=w) (ty:=o.type) (c:=cap) Q l C D m m4 sc mI oU (by simpa using A) E;refine UY (rows:=rows) (xs:=[]) h nZ l Z C D E m vX xS m1 J (by simpa using A) cO er gQ eo f he ?_;rw[O];simp only[builtin,aKF,List.map_nil,G,F,Sem.run_bind,cF,Result.andThen_ok,Sem.run_pure]
   ·cases he
  ·cases he
 ·cases K
end
section
variable {P:Program}{gl:cQ}{N:Nat}{g g':bD}{s s':au}{a:Act}{w w':World}{o:Oper}
theorem anS{c:AV}(h:c.eH=true):c.one=true:=by
 cases c<;>first|rfl|simp[AV.eH]at h
variable {d:Nat}{x:aL}
theorem anT(h:Rel P gl N g s a w)(b:xP N o d x=true)(he:aJ gl s (.s3 d x)=some s'):eu P gl N o g a w s':=by
 simp only[xP,aKB]at b;obtain⟨hd,f⟩:=b;split at f
 ·rename_i e j aE;obtain⟨u,n,k⟩:=bind_some he;split at k
  ·rename_i ar;simp only[cZ,aKB,beq_iff_eq,decide_eq_true_eq]at hd;have p:u.cells.all AV.one=true:=by
    rw[aKK]at ar ⊢;exact λc b=>anS (ar c b)
   obtain⟨q,r⟩:=(dk h f n).cells p;have t:=q.Mz ar r;obtain⟨m,y⟩:=h.MB (a.eval j).cells e;have l:=m.toGhLe;have z:fB (g.l4 w.heap.size (a.eval j).cells).γ w.heap.size 0 u.cells :=
    fB.HS (t.mono l.γ) λi v A=>by simpa[bD.l4]using A
   refine⟨ptrTo w.heap.size 0,w.alloc (.cells (a.eval j).cells e),_,.inl ?_,m,?_⟩
   ·simp only[execOp,aE,Sem.run_bind,HP,Result.andThen_ok,Sem.run_pure]
   ·rw[hd.1];exact y.put k hd.2 (.pure _ _ (.cL _ _ _ z)) (D8 _).gG
  ·cases k
 ·cases f
variable {t e:TypeId}
theorem anU(d:Nat)(f:P.underlying t=some (.slice e))(b:Option Addr)(n c:Nat):(Op.equalIn (d+1) t (.slice b n c) (.slice none 0 0)).run P w=.ok b.isNone w:=by
 cases b<;>simp[Op.equalIn,run_underlying f]
theorem U0(f:P.underlying t=some (.slice e))(b:Option Addr)(n c:Nat):(Op.equal t (.slice b n c) (.slice none 0 0)).run P w=.ok b.isNone w:=anU 9999 f b n c
def U1:Value->Bool
 |.slice none 0 0=>true|_=>false
def ML(P:Program)(N:Nat)(o:Oper)(d:Nat)(ne:Bool)(x:aL):Bool:=cZ N o d &&
 (match o.op with|.binOp op t bK (.const c) _=>decide (op=if ne then .neq else .eql)&&dJ bK x&&U1 c&&(match P.underlying t with|some (.slice _)=>true|_=>false)|_=>false)
theorem anV{ne:Bool}(h:Rel P gl N g s a w)(k:ML P N o d ne x=true)(he:aJ gl s (.r8 d ne x)=some s'):eu P gl N o g a w s':=by
 simp only[ML,aKB]at k;obtain⟨hd,i⟩:=k;split at i
 ·rename_i op t l c u aE;simp only[aKB,decide_eq_true_eq]at i;obtain⟨⟨⟨i,ah⟩,m⟩,hk⟩:=i;split at hk
  ·rename_i e q;have k:c=.slice none 0 0:=by unfold U1 at m;split at m<;>first|rfl|cases m
   subst k;have r:a.eval (.const (.slice none 0 0))=.slice none 0 0:=rfl;have p:∀b n j,a.eval l=.slice b n j->(execOp a.eval o).run P w=.ok (.value (.bool (if ne then !b.isNone else b.isNone))) w:=by
    intro b n j f;cases ne with
    |false =>
     simp only[aKY,if_false]at i ⊢;subst i;simp only[execOp,aE,f,r,Sem.run_bind];have:=D4 (P:=P) (w:=w) (xo:=l) (yo:=.const (.slice none 0 0)) (x:=.slice b n j) (y:=.slice none 0 0) (t:=t) lw lb (U0 q b n j);simp only[Sem.run_bind]at this;rw[this];rfl
    |true =>
     simp only[if_true]at i ⊢;subst i;simp only[execOp,aE,f,r,Sem.run_bind];have:=D5 (P:=P) (w:=w) (xo:=l) (yo:=.const (.slice none 0 0)) (x:=.slice b n j) (y:=.slice none 0 0) (t:=t) lw lb (U0 q b n j);simp only[Sem.run_bind]at this;rw[this];rfl
   simp only[aJ]at he;split at he
   ·rename_i sz f;have f:=(dk h ah f).uz;refine .value h hd he (p _ _ _ f) ?_ (pH _);cases ne<;>exact .pure _ _ (.bool _)
   ·rename_i sz f;obtain⟨base,cap,f⟩:=(dk h ah f).Ma;refine .value h hd he (p _ _ _ f) ?_ (pH _);cases ne<;>exact .pure _ _ (.bool _)
   ·rename_i own sz y v f;obtain⟨base,cap,f,_,ae⟩:=(dk h ah f).zq;rcases ae with ae|⟨b,off,rfl,_⟩
    ·cases ae
    refine .value h hd he (p _ _ _ f) ?_ (pH _);cases ne<;>exact .pure _ _ (.bool _)
   ·cases he
  ·cases hk
 ·cases i
def MM(P:Program)(o:Oper)(e0:Nat):Bool:=match o.op with
 |.buildSlice t _ _=>(match P.underlying t with|some (.slice e)=>e==e0|_=>false)|_=>false
def Ep(P:Program)(N:Nat)(o:Oper)(d e0 sz:Nat)(xs:List aL):Bool:=Bz P N o d sz xs&&MM P o e0
theorem anW{e0 sz:Nat}{xs:List aL}(h:Rel P gl N g s a w)(J:Ep P N o d e0 sz xs=true)(he:aJ gl s (.nV d e0 sz xs)=some s'):eu P gl N o g a w s':=by
 simp only[Ep,Bz,aKB]at J;obtain⟨⟨hd,p⟩,q⟩:=J;split at p
 ·rename_i t n u aE;simp only[aKB,beq_iff_eq]at p;obtain⟨⟨⟨rfl,zw⟩,B⟩,hk⟩:=p;unfold HU at hk;split at hk
  ·rename_i e K;simp only[aKB,decide_eq_true_eq]at hk;obtain⟨hX,hp⟩:=hk;obtain⟨i,z,L,O,c8,Q,gP,hA⟩:=ra hX;obtain⟨vs,aH,C⟩:=bind_some he;split at C
   ·rename_i ae;simp only[aKB,decide_eq_true_eq,aKK,beq_iff_eq]at ae;obtain⟨ed,R⟩:=ae;have S:=vF h B aH;have T:(u.map λ(i,x)=>(i,a.eval x))=(((u.toList.map (·.2)).map a.eval).zipIdx.map λ(v,i)=>(i,v)).toArray:=by
     rw[<-MD zw a.eval];apply aKI;simp
    have V:xs.length=((u.toList.map (·.2)).map a.eval).length:=by
     simp only[jX,aKB,beq_iff_eq]at B;rw[aKE];exact B.1.symm
    generalize (u.toList.map (·.2)).map a.eval=us at S T V;have j:=S.get
    -- the concrete elements
    have W:∀(k:Nat)x v,vs[k]?=some x->us[k]?=some v->dr g.γ x.a1 v/\x.a1.cells.length=sz/\v.cells.size=sz:=by
     intro k x v ah f;obtain⟨la,n5⟩:=ed x (aKJ ah);obtain⟨X,m,D⟩:=j.2 k x ah;rw[f]at m;simp at m;subst m;have ar:=D.a1.MA la;have j0:x.a1.cells.length=sz:=by
      have:x.a1.cells.length=x.cells.length:=by cases x<;>rfl
      rw[this];exact n5
     refine⟨ar,j0,?_⟩;have ME:=ar.cells;have:∀{cs:List AV}{ws:List Value},fX g.γ cs ws->ws.length=cs.length:=by
      intro cs ws Y;induction ws generalizing cs with
      |nil=>cases Y;rfl|cons w ws ih=>cases Y with|cons _ _ _ _ _ _ an=>simp[ih an]
     have:=this ME;simp at this;omega
    have Z:∀v∈us,v.cells.size=i.size:=by
     intro v f;obtain⟨k,kq,gH⟩:=aKQ f;have gb:k<vs.length:=by have:=j.1;omega
     have:=(W k vs[k] v (by simp[gb]) (by rw[aKG kq,gH])).2.2;omega
    have cT:=HV (P:=P) (w:=w) K L Q am Z (by
     have h1:us.length<=1000:=by rw[j.1];exact R
     calc _<=1000*1000:=aK4 h1 am
      _<=2 ^ 24:=by decide)
    obtain⟨m,D⟩:=h.MB (us.map (·.cells.toList)).flatten.toArray e;have y:(us.map (·.cells.toList)).flatten.length=us.length*sz:=by
     have:∀(l:List Value),(∀v∈l,v.cells.size=sz)->(l.map (·.cells.toList)).flatten.length=l.length*sz:=by
      intro l;induction l with
      |nil=>simp|cons v l ih=>intro aC;simp only[aKF,aK2,aKS,aKT,ih λv f=>aC v (by simp[f]),aKV,aC v be,aKC];omega
     exact this us λv f=>by rw[Z v f];exact O
    have c:(vs.map AV.a1).length=us.length:=by rw[aKE];exact j.1.symm
    have fc:fa (g.l4 w.heap.size (us.map (·.cells.toList)).flatten.toArray).γ w.heap.size 0 sz (vs.map AV.a1):=by
     refine fa.Eg (rows:=us.map (·.cells.toList)) (by rw[aKE,aKE];exact j.1.symm) (λk x r ah A=>?_) λk v f=>by simpa[bD.l4]using f
     rw[List.getElem?_map]at ah A;cases E:vs[k]? with
     |none=>simp[E]at ah|some bK =>
      cases F:us[k]? with
      |none=>simp[F]at A|some X =>
       simp[E]at ah;simp only[F,aKZ,Option.some.injEq]at A;subst ah A;obtain⟨m1,G,m3⟩:=W k bK X E F;exact⟨G,(m1.mono m.γ).cells,by simpa using m3⟩
    have BE:e=e0:=by
     unfold MM at q;rw[aE]at q;simp only[K,beq_iff_eq]at q;exact q
    subst BE;simp only[cZ,aKB,beq_iff_eq,decide_eq_true_eq]at hd;have nZ:lu s .DZ:=⟨be,be,be,be,be,be⟩;have U3:us.length<=1000:=by rw[j.1];exact R
    have H:bn (g.l4 w.heap.size (us.map (·.cells.toList)).flatten.toArray) (.list (some e) sz (vs.map AV.a1)) (.slice (some ⟨w.heap.size,0,none⟩) us.length us.length) :=
     .own _ _ _ _ (.Bv c.symm (by simp;unfold M;omega) am fc)
    have fM:fC P (g.l4 w.heap.size (us.map (·.cells.toList)).flatten.toArray) (w.alloc (.cells (us.map (·.cells.toList)).flatten.toArray e)) .DZ (.list (some e) sz (vs.map AV.a1)) (.slice (some ⟨w.heap.size,0,none⟩) us.length us.length):=by
     intro cB dW ys a7;simp at a7;obtain⟨rfl,rfl,rfl⟩:=a7;refine⟨i,z,(us.map (·.cells.toList)).flatten,L,O,c8,Q,gP,hA,by simp;unfold M;omega,⟨by rw[y,c],.inr ⟨w.heap.size,us.length,(us.map (·.cells.toList)).flatten.toArray,by rw[c],aKW _,heap_alloc_new w _,am,by unfold maxLen;omega,by simpa using y,?_⟩⟩,λb ae=>?_⟩
     ·rw[c,<-y];exact List.take_length
     ·simp[Value.ownBlock]at ae;subst ae;refine⟨by simp[bD.l4],fc,λoff zm=>?_⟩;simp only[bD.l4,if_true,List.getElem?_toArray];rw[aK8];rw[y,<-c];exact zm
    obtain⟨g',m1,G⟩:=D.Bp nZ be be hd.2 C H fM ⟨_,_,_,rfl⟩;refine⟨.slice (some ⟨w.heap.size,0,none⟩) us.length us.length,_,g',.inl ?_,m.trans m1,?_⟩
    ·simp only[execOp,aE,Sem.run_bind];rw[T,V,cT];rfl
    ·rw[hd.1];exact G
   ·cases C
  ·cases hk
 ·cases p
end
section
variable {P:Program}{gl:cQ}{N:Nat}{g g':bD}{s s':au}{a:Act}{w w':World}{o:Oper}
def zO(P:Program)(t n sz:Nat):Bool:=match P.underlying t with
 |some (.array m e)=>m==n&&(match P.info? e with|some f=>f.size==sz|none=>false)|_=>false
variable {t n sz:Nat}
theorem U4(h:zO P t n sz=true):∃e f,P.underlying t=some (.array n e)/\P.info? e=some f/\f.size=sz:=by
 unfold zO at h;split at h
 ·grind
 ·cases h
variable {e:Nat}{f:TypeInfo}
theorem anY(c:P.underlying t=some (.array n e))(al:P.info? e=some f)(b off:Nat)(k:IntKind){j:Int}(d:0<=j)(h:j<n) :
  (Instr.indexAt t (ptrTo b off) (.int k j)).run P w=.ok (ptrTo b (off+j.toNat*f.size)) w:=by
 simp[Instr.indexAt,asIntOf,run_underlying c,d,h,Go.sizeOf,typeInfo,al,n0,ptrTo,Instr.sureAddr]
def MN(P:Program)(N:Nat)(o:Oper)(d:Nat)(x:aL)(n sz:Nat)(i:aL):Bool:=cZ N o d &&
 (match o.op with|.indexAddr t bK oQ=>dJ bK x&&dJ oQ i&&zO P t n sz|_=>false)
variable {d:Nat}{x:aL}
theorem anZ{i:aL}(h:Rel P gl N g s a w)(u:MN P N o d x n sz i=true)(he:aJ gl s (.oJ d x n sz i)=some s'):eu P gl N o g a w s':=by
 simp only[MN,aKB]at u;obtain⟨hd,q⟩:=u;split at q
 ·rename_i t v y aE;simp only[aKB]at q;obtain⟨⟨ah,al⟩,hk⟩:=q;obtain⟨e,f,z,A,rfl⟩:=U4 hk;have r:∀b c k(j:Int),a.eval v=ptrTo b c->a.eval y=.int k j->0<=j->j<n->(execOp a.eval o).run P w=.ok (.value (ptrTo b (c+j.toNat*f.size))) w:=by
   intro b c k j B C D E;simp only[execOp,aE,Sem.run_bind,B,C,anY z A b c k D E,Result.andThen_ok,Sem.run_pure]
  simp only[aJ]at he;split at he
  ·rename_i G c k j ar l;obtain⟨b,cs,m,p,F,H⟩:=sa h ah ar;split at he
   ·rename_i ae;simp at he;subst he;exact .addr h hd ae.2.2 m p (r _ _ _ _ F (dk h al l).kp ae.1 ae.2.1)
   ·cases he
  ·rename_i id c k j ar l;obtain⟨b,m,p⟩:=sa h ah ar;split at he
   ·rename_i ae;exact .value h hd he (r _ _ _ _ p (dk h al l).kp ae.1 ae.2) (.ptr _ _ _ m) (vM _ _)
   ·cases he
  ·rename_i cs k j ar l;obtain⟨b,c,m,p⟩:=sa h ah ar;split at he
   ·rename_i ae;exact .value h hd he (r _ _ _ _ m (dk h al l).kp ae.1 ae.2.1) (.pure _ _ (.cL _ _ _ (p.drop _))) (D8 _)
   ·cases he
  ·cases he
 ·cases q
variable {γ:fA}{b off:Nat}
theorem fB.U5{c:AV}{cs:List AV}(h:fB γ b off (c::cs)):c.cells=[c]:=by
 cases h with
 |cons _ _ _ _ v h1 i j k =>
  cases j<;>first|rfl|simp[Value.oneCell']at i
theorem MO(k:0<sz):∀(n off:Nat)(cs:List AV),cs.length=n*sz->fB γ b off cs->fa γ b off sz (chunk sz n cs)/\(chunk sz n cs).length=n
 |0,_,_,_,_=>⟨.nil _ _ _,rfl⟩|n+1,off,cs,i,h=>by
  have l:(cs.drop sz).length=n*sz:=by rw[List.length_drop,i,aKC];omega
  have j:sz<=cs.length:=by rw[i,aKC];omega
  obtain⟨m,p⟩:=MO k n (off+sz) (cs.drop sz) l (h.drop sz);simp only[chunk];refine⟨.cons _ _ _ _ _ ?_ ?_ m,by simp[p]⟩
  ·split
   ·rename_i e;subst e
    match cs,j,h with
    |c::cs,_,h=>simp[h.U5]
   ·simp[AV.cells];omega
  ·split
   ·rename_i e;subst e
    match cs,j,h with
    |c::cs,_,h=>simp only[List.headD_cons,h.U5];exact h.take 1
   ·exact h.take sz
theorem an0{bc al:Option Value}{i j:Nat}(c:P.underlying t=some (.array n e))(h:P.info? e=some f)
  (ae:(Instr.sliceBounds false n n bc al none).run P w=.ok (i,j,n) w) :
  (Instr.sliceAt t (ptrTo b off) bc al none).run P w=.ok (.slice (some (if n=i then⟨b,off,none⟩else(⟨b,off,none⟩:Addr).add (i*f.size))) (j-i) (n-i)) w:=by
 simp only[Instr.sliceAt,Sem.run_bind,run_underlying c,Result.andThen_ok,Instr.sureAddr,ptrTo,Sem.run_pure,ae,Go.sizeOf,typeInfo,run_program,h]
def MP(P:Program)(N:Nat)(o:Oper)(d:Nat)(x:aL)(n sz:Nat)(bc al:Option aL):Bool:=cZ N o d&&decide (0<sz) &&
 (match o.op with|.slice t bK xN n2 none=>dJ bK x&&xM xN bc&&xM n2 al&&zO P t n sz|_=>false)
theorem an1{bc al:Option aL}(h:Rel P gl N g s a w)(l:MP P N o d x n sz bc al=true)(he:aJ gl s (.q4 d x n sz bc al)=some s'):eu P gl N o g a w s':=by
 simp only[MP,aKB,decide_eq_true_eq]at l;obtain⟨⟨hd,p⟩,k⟩:=l;split at k
 ·rename_i t K L O aE;simp only[aKB]at k;obtain⟨⟨⟨ah,q⟩,r⟩,hk⟩:=k;obtain⟨e,f,u,y,rfl⟩:=U4 hk;simp only[aJ]at he;split at he
  ·rename_i cs ar;obtain⟨b,off,z,A⟩:=sa h ah ar;split at he
   ·rename_i B;split at he
    ·rename_i i j C D;split at he
     ·rename_i ae;obtain⟨E,F,G⟩:=ae;obtain⟨H,c⟩:=MO p n off cs B.1 A;have J:=D9 (P:=P) (w:=w) (cap:=n) h false q r C D E F G (aKL _);refine .value h hd he (v:=.slice (some (if n=i.toNat then⟨b,off,none⟩else(⟨b,off,none⟩:Addr).add (i.toNat*f.size))) (j.toNat-i.toNat) (n-i.toNat)) ?_ ?_ (cY.none _ _)
      ·simp only[execOp,aE,aKO,Sem.run_bind,z,an0 u y J,Result.andThen_ok,Sem.run_pure]
      ·have m:(((chunk f.size n cs).take j.toNat).drop i.toNat).length=j.toNat-i.toNat:=by simp[c];omega
       by_cases Q:j.toNat=i.toNat
       ·exact .pure _ _ (.Mj (by apply aKP;omega) am be)
       ·have cG:¬n=i.toNat:=by omega
        simp only[cG,if_false,n0];exact .pure _ _ (.Bv m.symm (by rw[m];unfold M;omega) am ((H.take _).drop _))
     ·cases he
    ·cases he
   ·cases he
  ·cases he
 ·cases k
end
section
variable {P:Program}{gl:cQ}{N:Nat}{g g':bD}{s s':au}{a:Act}{w w':World}{o:Oper}
variable {e sz:Nat}
theorem Rel.MQ(h:Rel P gl N g s a w){cs:List AV}{ws:List Value}(p:ko P e sz=true)(q:cS g cs ws)(r:∀v∈ws,v.oneCell'=true)(u:∀c∈cs,cY c)(x:ws.length<=maxLen*sz) :
  ∃g',eL g w g' (w.alloc (.cells ws.toArray e))/\Rel P gl N g' { s with heap:=s.heap++[ay.buf e cs,.dead] } a (w.alloc (.cells ws.toArray e))/\g'.cg s.heap.length=some w.heap.size /\
   g'.cg (s.heap.length+1)=some ws.length:=by
 obtain⟨y,l⟩:=h.alloc (.cells ws.toArray e) (.bM s.heap.length);have ae:=jw.new (P:=P) (ow:=.bM s.heap.length) (oc:=.oc s.heap.length) (ty:=e) h.vQ q r u;let f:bD:={ g.jB w.heap.size (.bM s.heap.length)with cg:=λid=>if id=s.heap.length then some w.heap.size else if id=s.heap.length+1 then some ws.length else g.cg id }
 have j:GhLe (g.jB w.heap.size (.bM s.heap.length)) f:=⟨λ_ _ _ h=>h,λid b m=>by
  have:=h.ga id b m;simp[f,show id≠s.heap.length by omega,show id≠s.heap.length+1 by omega];exact m⟩
 have hk:∀K,Kept (g.jB w.heap.size (.bM s.heap.length)) (w.alloc (.cells ws.toArray e)) f (w.alloc (.cells ws.toArray e)) K:=λK b _=>⟨rfl,rfl,λ_=>rfl⟩;refine⟨f,y.trans ⟨j,λb ae=>⟨ae,rfl,λ_=>rfl⟩,aKL _,rfl,rfl⟩,?_,by simp[f],by simp[f]⟩;refine⟨l.sorted,l.size,l.defers,λt e he=>(l.env t e he).kept j (hk λ_=>True) trivial trivial (λ_=>trivial),λid bM d=>?_,l.fI,l.own,l.hf,λid b m=>?_⟩
 ·simp only at d;by_cases A:id<s.heap.length
  ·rw[aKR A]at d;exact(l.heap id bM d).kept j (hk λ_=>True) (λ_=>trivial) (λ_=>trivial)
  ·rw[aK3 am]at d;by_cases n:id=s.heap.length
   ·subst n;simp at d;subst d;obtain⟨i,z,B,C,G,D,H,E⟩:=ra p;exact⟨w.heap.size,ws.length,by simp[f],by simp[f],ae.kept j (hk λ_=>True) trivial (λ_=>trivial),⟨ws.toArray,heap_alloc_new w _,be⟩,i,z,B,am,D,am,E,by rw[C];exact x⟩
   ·obtain⟨k,hk⟩:∃k,id-s.heap.length=k+1:=⟨id-s.heap.length-1,am⟩;rw[hk]at d;cases k with
    |zero=>simp at d;subst d;trivial|succ k=>simp at d
 ·simp only[aKS,aKT,List.length_nil];by_cases n:id=s.heap.length
  ·omega
  ·by_cases F:id=s.heap.length+1
   ·omega
   ·simp[f,n,F]at m;have:=h.ga id b m;omega
theorem MR{α:Type}(z:List α)(b:0<z.length):∀(n i:Nat),i<n*z.length->(aKX n z).flatten[i]?=z[i % z.length]?
 |0,i,h=>by simp at h|n+1,i,h=>by
  rw[List.replicate_succ,aK2];by_cases al:i<z.length
  ·rw[aKR al,Nat.mod_eq_of_lt al]
  ·rw[aK3 am,MR z b n (i-z.length) (by rw[aKC]at h;omega)];congr 1
   rw[<-Nat.mod_eq_sub_mod am]
def tn(m:Nat)(z:Array Value):Array Value:=(Array.range m).map ((if m=0 then #[]else z)[· % (if m=0 then #[]else z).size]!)
theorem an2{t e:TypeId}{i:TypeInfo}{z:Value}{k k':IntKind}{n:Int}(d:P.underlying t=some (.slice e))(al:P.info? e=some i)(f:i.zero=some z)
  (ae:i.bytes<=128)(b:0<=n)(h:n<=M) :
  (Instr.makeSlice t (.int k n) (.int k' n)).run P w=.ok (.slice (some ⟨w.heap.size,0,none⟩) n.toNat n.toNat) (w.alloc (.cells (tn (n.toNat*i.size) z.cells) e)):=by
 have j:=wrap_small b h;have p:(M:Int)=1099511627776:=rfl;have q:((i.bytes:Nat):Int)*n<=128*1099511627776:=by
  have r:((i.bytes:Nat):Int)*n<=128*n:=Int.mul_le_mul_of_nonneg_right am b;omega
 have l:¬(((i.bytes:Nat):Int)*n>2 ^ 48):=by grind
 have u:n.toNat*i.bytes<=roomBytes:=by
  have:((n.toNat*i.bytes:Nat):Int)=((i.bytes:Nat):Int)*n:=by grind
  have v:roomBytes=140737488355328:=by decide
  omega
 have m:¬(n<0):=by omega
 simp only[Instr.makeSlice,Sem.run_bind,run_underlying d,Result.andThen_ok,asInt,asIntOf,Sem.run_pure,typeInfo,run_program,al,j];simp only[m,l,decide_false,Bool.or_false,aKY,if_false,Int.lt_irrefl];unfold tn;by_cases c:n.toNat*i.size=0
 ·simp[askRoom,show ¬n.toNat*i.bytes>roomBytes by omega,Go.sizeOf,typeInfo,al,c,newRow,newObj,Sem.run]
 ·simp[askRoom,show ¬n.toNat*i.bytes>roomBytes by omega,Go.sizeOf,typeInfo,al,c,newRow,newObj,Sem.run,zeroValue,f]
theorem an3{m:Nat}{z:Array Value}(b:0<z.size){i:Nat}(al:i<m):(tn m z)[i]?=z[i % z.size]?:=by
 have hm:¬m=0:=by omega
 have c:i % z.size<z.size:=Nat.mod_lt _ b;simp[tn,hm,al,c]
def MS(P:Program)(N:Nat)(o:Oper)(d e:Nat)(z:List AV)(x:aL):Bool:=cZ N o d &&
 (match o.op with|.makeSlice t bK hy=>dJ bK x&&dJ hy x&&zv P t e z.length&&zu P e z|_=>false)
variable {d:Nat}
theorem an4{z:List AV}{x:aL}(h:Rel P gl N g s a w)(f:MS P N o d e z x=true)(he:aJ gl s (.s5 d e z x)=some s'):eu P gl N o g a w s':=by
 simp only[MS,aKB]at f;obtain⟨hd,r⟩:=f;split at r
 ·rename_i t bK hy aE;simp only[aKB]at r;obtain⟨⟨⟨ah,O⟩,hk⟩,Q⟩:=r;obtain⟨p,E⟩:=Eh hk;obtain⟨i,b,F,G,R,H,S,T⟩:=ra E;obtain⟨oQ,v,A,B,V,W,X⟩:=Bx (g:=g) Q;rw[F]at A;simp at A;subst A;rw[H]at B;simp at B;subst B;simp only[aJ]at he;split at he
  ·rename_i k n J;split at he
   ·rename_i ae;obtain⟨Y,h1⟩:=ae;have Z:(n:Int)<=M:=by unfold M;omega
    have ex:=(dk h ah J).kp;have C:=(dk h O J).kp;have cT:=an2 (P:=P) (w:=w) (k:=k) (k':=k) p F H T Y Z;have y:(tn (n.toNat*i.size) b.cells).size=n.toNat*z.length:=by simp[tn,G]
    have j1:(aKX n.toNat z).flatten.length=n.toNat*z.length:=by simp
    have pw:b.cells.size=z.length:=S;have K:∀j,j<n.toNat*z.length->(tn (n.toNat*i.size) b.cells)[j]?=b.cells[j % z.length]?/\(aKX n.toNat z).flatten[j]?=z[j % z.length]?:=λj m=>by
     refine⟨?_,MR z R _ _ m⟩;rw[an3 am (by rw[G];exact m),pw]
    have hN:cS g (aKX n.toNat z).flatten (tn (n.toNat*i.size) b.cells).toList:=by
     refine .HI (by rw[aKV,y,j1]) λj c u f p=>?_;have m:j<n.toNat*z.length:=by grind
     obtain⟨m1,m2⟩:=K j m;rw[m2]at f;rw[aK6,m1]at p;obtain⟨k9,q,D⟩:=V.get.2 _ _ f;rw[aK6,p]at q;simp at q;subst q;exact D
    have mI:∀u∈(tn (n.toNat*i.size) b.cells).toList,u.oneCell'=true:=λu p=>by
     obtain⟨j,m,MT⟩:=aKQ p;have se:j<n.toNat*z.length:=by rw[<-y];simpa using m
     have:(tn (n.toNat*i.size) b.cells).toList[j]?=some u:=by rw[aKG m,MT]
     rw[aK6,(K j se).1]at this;exact W u (aKJ (by rw[aK6];exact this))
    have l5:∀c∈(aKX n.toNat z).flatten,cY c:=λc f=>by
     obtain⟨l,aC,L⟩:=aK5.1 f;rw[List.eq_of_mem_replicate aC]at L;exact X c L
    obtain⟨g',q,D,aQ,bG⟩:=h.MQ E hN mI l5 (by rw[aKV,y];exact aK7 _ (by unfold maxLen;omega));simp only[cZ,aKB,beq_iff_eq,decide_eq_true_eq]at hd;refine⟨.slice (some ⟨w.heap.size,0,none⟩) n.toNat n.toNat,w.alloc (.cells (tn (n.toNat*i.size) b.cells) e),g',.inl ?_,by simpa using q,?_⟩
    ·simp only[execOp,aE,Sem.run_bind,ex,C,cT,Result.andThen_ok,Sem.run_pure]
    ·rw[hd.1];have:=D.put he hd.2 (v:=.slice (some ⟨w.heap.size,0,none⟩) n.toNat n.toNat) (.bI _ _ _ _ _ _ _ aQ bG (by rw[aKD];exact(aKV▸y).symm) (aKL _)) (.mE λ_ _ _ h=>f9);simpa using this
   ·cases he
  ·cases he
 ·cases r
def MU(P:Program)(N:Nat)(o:Oper)(d e0 sz:Nat)(xs:List aL):Bool:=Ep P N o d e0 sz xs
theorem an6{xs:List AV}{us:List Value}(h:cS g xs us)(ah:∀x∈xs,x.cells.length=sz/\x.cells.all AV.one=true) :
  cS g (xs.map λv:AV=>v.cells.map AV.a1).flatten (us.map (·.cells.toList)).flatten/\(∀u∈(us.map (·.cells.toList)).flatten,u.oneCell'=true)/\(∀u∈us,u.cells.size=sz)/\(us.map (·.cells.toList)).flatten.length=us.length*sz:=by
 induction us generalizing xs with
 |nil=>cases h;exact⟨.nil,be,be,be⟩|cons u us ih=>cases h with
  |cons x xs _ _ h1 c =>
   obtain⟨f,l,m,n⟩:=ih c λy i=>ah y (by simp[i]);obtain⟨m1,j⟩:=ah x be;obtain⟨b,p⟩:=h1.cells j;have q:u.cells.size=sz:=by have:=b.get.1;simp at this;omega
   refine⟨?_,λv k=>?_,λv k=>?_,?_⟩
   ·simp only[aKF,aK2];exact b.a1.append f
   ·grind
   ·grind
   ·grind
theorem an7{e0:Nat}{xs:List aL}(h:Rel P gl N g s a w)(f:MU P N o d e0 sz xs=true)(he:aJ gl s (.s4 d e0 sz xs)=some s'):eu P gl N o g a w s':=by
 simp only[MU,Ep,Bz,aKB]at f;obtain⟨⟨hd,j⟩,k⟩:=f;split at j
 ·rename_i t n m aE;simp only[aKB,beq_iff_eq]at j;obtain⟨⟨⟨rfl,E⟩,p⟩,hk⟩:=j;unfold HU at hk;split at hk
  ·rename_i e u;simp only[aKB,decide_eq_true_eq]at hk;obtain⟨y,hp⟩:=hk;obtain⟨i,z,F,b8,c8,G,gP,hA⟩:=ra y;have H:e=e0:=by
    unfold MM at k;rw[aE]at k;simp only[u,beq_iff_eq]at k;exact k
   subst H;obtain⟨vs,J,q⟩:=bind_some he;split at q
   ·rename_i ae;simp only[aKB,decide_eq_true_eq,aKK,beq_iff_eq]at ae;obtain⟨⟨A,K⟩,tk⟩:=ae;have r:=vF h p J;have B:(m.map λ(i,x)=>(i,a.eval x))=(((m.toList.map (·.2)).map a.eval).zipIdx.map λ(v,i)=>(i,v)).toArray:=by
     rw[<-MD E a.eval];apply aKI;simp
    have C:xs.length=((m.toList.map (·.2)).map a.eval).length:=by
     simp only[jX,aKB,beq_iff_eq]at p;rw[aKE];exact p.1.symm
    generalize (m.toList.map (·.2)).map a.eval=us at r B C;have b:=r.get.1;obtain⟨L,O,Q,D⟩:=an6 r λx ah=>⟨(A x ah).1,by rw[aKK];exact(A x ah).2⟩;have R:=HV (P:=P) (w:=w) u F G am (λv S=>by rw[Q v S];omega) (by
     have T:us.length<=1000:=by rw[b];exact K
     calc _<=1000*1000:=aK4 T am
      _<=2 ^ 24:=by decide)
    obtain⟨g',V,W,X,Y⟩:=h.MQ y L O (λc f=>by
     obtain⟨l,Z,j0⟩:=aK5.1 f;obtain⟨v,_,rfl⟩:=List.mem_map.1 Z;exact uA c j0) (by rw[D,b];exact aK7 _ (by unfold maxLen;omega))
    simp only[cZ,aKB,beq_iff_eq,decide_eq_true_eq]at hd;refine⟨.slice (some ⟨w.heap.size,0,none⟩) us.length us.length,_,g',.inl ?_,V,?_⟩
    ·simp only[execOp,aE,Sem.run_bind];rw[B,C,R];rfl
    ·rw[hd.1];have qi:bn g' (.bI s.heap.length 0 vs.length sz) (.slice (some ⟨w.heap.size,0,none⟩) us.length us.length):=by
      rw[b];exact bn.bI _ 0 _ _ _ _ vs.length X Y (by rw[D,aKD,b]) (aKL _)
     exact W.put q hd.2 qi (.mE λ_ _ _ h=>f9)
   ·cases q
  ·cases hk
 ·cases j
end
open Go Go.Maps
section
variable {P:Program}{gl:cQ}{N:Nat}{g g':bD}{s s':au}{a:Act}{w w':World}{o:Oper}{γ fm:fA}
def xU(P:Program):List Nat->List Field->Nat->Bool
 |[],[],_=>true|k::ks,f::dC,i=>f.name != "_"&&f.offset==i&&P.cellsOf f.type==1&&(match P.underlying f.type with|some .string=>k==1|some .bool=>k==2|_=>false)&&xU P ks dC (i+1)|_,_,_=>false
def tp(P:Program)(k:TypeId)(ks:List Nat):Bool:=match P.underlying k with
 |some .string=>ks==[1]|some (.struct dC)=>laidOutB P&&decide (k<P.types.size)&&P.keyTypeAt 3 k&&P.keyType k&&ks.length != 1&&P.cellsOf k==ks.length&&xU P ks dC.toList 0|_=>false
variable {k:TypeId}{ks:List Nat}
theorem MV(h:tp P k ks=true):Keyed P k:=by
 unfold tp at h;split at h
 ·simp_all[string_keyed]
 ·rename_i c b;simp only[aKB,decide_eq_true_eq]at h;exact Keyed.of_law (deep_law_laid h.1.1.1.1.1.1 am h.1.1.1.1.1.2 h.1.1.1.1.2 (by simp[b]))
 ·cases h
theorem an8{l:List UInt8}(h:fE ks (.str l)=true):ks=[1]:=by simpa[fE]using h
variable {x:AV}
theorem vY(h:fE ks x=true):(∃l,x=.str l/\ks=[1])\/∃cs,x=.agg cs/\ks.length≠1/\cs.map nW=ks/\∀k∈ks,k=1\/k=2:=by
 cases x<;>simp[fE]at h
 ·exact .inl ⟨_,rfl,h⟩
 ·exact .inr ⟨_,rfl,h.1.1,h.2,h.1.2⟩
variable {c:AV}
theorem Er(h:nW c=1):∃l,c=.str l:=by cases c<;>simp[nW]at h;exact⟨_,rfl⟩
theorem Es(h:nW c=2):∃b,c=.bool b:=by cases c<;>simp[nW]at h;exact⟨_,rfl⟩
theorem an9:∀{ks:List Nat}{xs ys:List AV}{us vs:List Value},xs.map nW=ks->ys.map nW=ks->(∀k∈ks,k=1\/k=2)->fX γ xs us->fX fm ys vs ->
  (∃b,eqs xs ys=some b)/\(eqs xs ys=some true↔us=vs)/\(xs=ys↔us=vs):=by
 intro ks;induction ks with
 |nil =>
  intro xs ys us vs ah d _ h i;simp at ah d;subst ah d;cases h;cases i;simp[eqs]
 |cons k ks ih =>
  intro xs ys us vs ah d hk h i;cases xs with
  |nil=>simp at ah|cons x xs =>
   cases ys with
   |nil=>simp at d|cons y ys =>
    simp at ah d;cases h with
    |cons _ _ u us _ j q =>
     cases i with
     |cons _ _ v vs _ n r =>
      obtain⟨⟨b,e⟩,f,p⟩:=ih ah.2 d.2 (λk t=>hk k (by simp[t])) q r;rcases hk k be with rfl|rfl
      ·obtain⟨l,rfl⟩:=Er ah.1;obtain⟨m,rfl⟩:=Er d.1;cases j;cases n;refine⟨⟨_,by simp[eqs,q7,e];rfl⟩,?_,by simp[p]⟩;simp only[eqs,q7,e];rw[e]at f;simp only[Option.some.injEq]at f;simp[f]
      ·obtain⟨l,rfl⟩:=Es ah.1;obtain⟨m,rfl⟩:=Es d.1;cases j;cases n;refine⟨⟨_,by simp[eqs,q7,e];rfl⟩,?_,by simp[p]⟩;simp only[eqs,q7,e];rw[e]at f;simp only[Option.some.injEq]at f;simp[f]
variable {y:AV}{u v:Value}
theorem xV(ah:fE ks x=true)(d:fE ks y=true)(e:dr γ x u)(f:dr fm y v):(dS x y=true↔u=v)/\(x=y↔u=v):=by
 rcases vY ah with⟨l,rfl,rfl⟩|⟨cs,rfl,i,j,n⟩
 ·rcases vY d with⟨m,rfl,_⟩|⟨cs,rfl,h,_⟩
  ·cases e;cases f;simp[dS]
  ·simp at h
 ·rcases vY d with⟨m,rfl,h⟩|⟨hz,rfl,A,p,_⟩
  ·subst h;simp at i
  ·cases e with
   |agg _ us q =>
    cases f with
    |agg _ vs r =>
     obtain⟨⟨b,B⟩,t,z⟩:=an9 j p n q r;simp only[dS,beq_iff_eq,t,Value.agg.injEq];simp[z]
theorem Et(ah:fE ks x=true)(b:fE ks y=true)(d:dr γ x u)(e:dr fm y v):dS x y=true↔x=y:=by
 rw[(xV ah b d e).1,(xV ah b d e).2]
theorem bn.key(ah:fE ks x=true)(h:bn g x v):dr γ x v:=by
 rcases vY ah with⟨l,rfl,rfl⟩|⟨cs,rfl,i,j,b⟩
 ·obtain⟨rfl,m⟩:=h.mG;exact .str _ m
 ·obtain⟨ws,rfl,d,e⟩:=h.oP;refine .agg _ _ ?_;subst j;clear i ah h;revert b d;induction ws generalizing cs with
  |nil=>intro d b;cases d;exact .nil|cons w ws ih =>
   intro d b;cases d with
   |cons c cs _ _ f n =>
    refine .cons _ _ _ _ (e w be) ?_ (ih cs (λx ah=>e x (by simp[ah])) n (λk hk=>b k (List.mem_cons_of_mem _ hk)));rcases b (nW c) be with hk|hk
    ·obtain⟨l,rfl⟩:=Er hk;obtain⟨rfl,h⟩:=f.mG;exact .str _ h
    ·obtain⟨l,rfl⟩:=Es hk;have:=f.oO;subst this;exact .bool _
theorem aoa{n:Nat}{full:List Value}:∀(d:List Field)(ks:List Nat)(i:Nat)(cs:List AV)(ws:List Value),xU P ks d i=true->full.drop i=ws->fX γ cs ws->cs.map nW=ks ->
  ∃r,(d.mapM λf=>P.keyLits (n+1) f.type ((full.drop f.offset).take (P.cellsOf f.type)))=some r:=by
 intro d;induction d with
 |nil=>intro ks i cs ws h _ _ _;exact⟨[],be⟩|cons f d ih =>
  intro ks i cs ws h m ar hk;cases ks with
  |nil=>simp[xU]at h|cons k ks =>
   simp only[xU,aKB,beq_iff_eq]at h;obtain⟨⟨⟨⟨E,q⟩,t⟩,b⟩,z⟩:=h;cases cs with
   |nil=>simp at hk|cons c cs =>
    simp at hk;cases ar with
    |cons _ _ v ws F p A =>
     have B:full.drop (i+1)=ws:=by
      rw[<-List.drop_drop,m];simp
     obtain⟨r,C⟩:=ih ks (i+1) cs ws z B A hk.2;have D:(full.drop f.offset).take (P.cellsOf f.type)=[v]:=by rw[q,t,m];simp
     have:∃l,P.keyLits (n+1) f.type [v]=some l:=by
      split at b
      ·rename_i e;simp at b;obtain⟨l,rfl⟩:=Er (hk.1.trans b);cases p with
       |str _ j =>
        refine⟨_,by simp only[Program.keyLits,e];rw[if_pos];simp[ByteArray.size];unfold M at j;unfold maxLen;omega⟩
      ·rename_i e;simp at b;obtain⟨l,rfl⟩:=Es (hk.1.trans b);cases p;exact⟨_,by simp only[Program.keyLits,e];rfl⟩
      ·cases b
     obtain⟨l,j⟩:=this;refine⟨l::r,?_⟩;rw[List.mapM_cons,D,j];simp only[Option.bind_eq_bind,Option.bind_some,C];rfl
theorem U7:∀{b:List Field}{ks:List Nat}{i:Nat},xU P ks b i=true->∀f∈b,(f.name != "_")=true
 |[],_,_,_,_,h=>by simp at h|f::b,[],_,h,_,_=>by simp[xU]at h|f::b,k::ks,i,h,e,d=>by
  simp only[xU,aKB,beq_iff_eq]at h;rcases List.mem_cons.1 d with rfl|d
  ·exact h.1.1.1.1
  ·exact U7 h.2 e d
theorem fX.len:∀{ws:List Value}{cs:List AV},fX γ cs ws->ws.length=cs.length
 |[],_,h=>by cases h;rfl|_::_,_,.cons _ _ _ _ _ _ h=>by simp[fX.len h]
theorem H3(hk:tp P k ks=true)(ah:fE ks x=true)(h:dr γ x v):∃l,keyOf P k v=some l:=by
 unfold tp at hk;split at hk
 ·rename_i d;simp at hk;subst hk;rcases vY ah with⟨l,rfl,_⟩|⟨cs,rfl,h,_⟩
  ·cases h with
   |str _ p=>exact⟨_,by simp only[keyOf,d,mapKey];rw[if_pos];simp[ByteArray.size];unfold M at p;unfold maxLen;omega⟩
  ·simp at h
 ·rename_i e d;simp only[aKB,decide_eq_true_eq,beq_iff_eq,bne_iff_ne]at hk;obtain⟨⟨⟨⟨⟨⟨_,q⟩,_⟩,t⟩,z⟩,f⟩,i⟩:=hk;rcases vY ah with⟨l,rfl,A⟩|⟨cs,rfl,_,j,E⟩
  ·subst A;simp at z
  ·cases h with
   |agg _ ws ar =>
    have b:ws.length=ks.length:=by
     rw[<-j,aKE];exact ar.len
    obtain⟨m,hm⟩:∃m,P.types.size=m+1:=⟨P.types.size-1,by have:0<P.types.size:=Nat.lt_of_le_of_lt (aKW _) q;exact(Nat.succ_pred_eq_of_pos this).symm⟩;obtain⟨r,B⟩:=aoa (P:=P) (n:=m) (full:=ws) e.toList ks 0 cs ws i rfl ar j;have C:(Value.agg ws.toArray).formed P k=true:=by simp[Value.formed,d,b,f]
    have D:e.all (·.name != "_")=true:=by
     rw[<-Array.all_toList,aKK];exact U7 i
    refine⟨_,by
     simp only[keyOf,d,t,C,Bool.and_self,if_true];show(P.keyLits (P.types.size+1) k ws.toArray.toList).map _=_;simp only[Program.keyLits,d];rw[if_pos ⟨by rw[b,f],D⟩,hm,B];rfl⟩
 ·cases hk
end
end AM
