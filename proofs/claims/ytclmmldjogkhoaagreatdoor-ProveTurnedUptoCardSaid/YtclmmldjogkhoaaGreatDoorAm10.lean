/- An abstract machine, and what of the given program it does, part 11. Conditions: none. -/
import Derived.Test.YtclmmldjogkhoaaGreatDoorAm9
import Derived.CheckFast
import Derived.Orders
set_option linter.unusedVariables false
namespace AM
open Bool renaming and_eq_true -> I9,false_eq_true -> fM
open Array renaming getD_eq_getD_getElem? -> Ja,getElem?_eq_some_iff -> ae0
open List renaming mem_of_getElem? -> LW,mem_cons -> TH,mem_range -> aeZ,all_eq_true -> aB5
open Go
inductive mM(md:Region.Mode)(ops:Array Oper):List Nat->List Nat->Prop
 |nil (done:List Nat):mM md ops done []|cons (done L:List Nat) (i:Nat) (o:Oper) (aA:ops[i]?=some o) (ak:i∉done) (he:∀e∈o.after.toList,Region.binds md e=true->e.on∈done) (cg:mM md ops (i::done) L):mM md ops done (i::L)
variable {md:Region.Mode}{ops:Array Oper}{done L:List Nat}
theorem mM.lt(h:mM md ops done L):∀i∈L,i<ops.size:=by
 induction h with
 |nil=>simp|cons done L i o aA ak he cg ih=>grind
theorem mM.nodup(h:mM md ops done L):L.Nodup/\∀i∈L,i∉done:=by
 induction h with
 |nil=>simp|cons done L i o aA ak he cg ih=>grind
def pH(ops:Array Oper)(l:Array Bool)(done:List Nat):Prop:=l.size=ops.size/\∀i,l[i]?=some true↔i∈done
variable {l:Array Bool}
theorem pH.getD(h:pH ops l done)(i:Nat):l.getD i false=true↔i∈done:=by
 rw[<-h.2 i,Ja];cases l[i]? with
 |none=>simp|some b=>simp
variable {i:Nat}
theorem pH.set(h:pH ops l done)(ak:i<ops.size):pH ops (l.setIfInBounds i true) (i::done):=by
 refine⟨by simp[h.1],fun j=>?_⟩;rw[Array.getElem?_setIfInBounds];by_cases e:i=j
 ·subst e;simp[h.1,ak]
 ·simp[e,h.2 j,Ne.symm e]
theorem LV(h:pH ops l done)(i:Nat):i∈Region.ready md ops l↔∃o,ops[i]?=some o/\i∉done/\∀e∈o.after.toList,Region.binds md e=true->e.on∈done:=by
 unfold Region.ready;simp only[List.mem_filter,aeZ,I9,Bool.not_eq_true'];constructor
 ·rintro⟨b,U,a⟩;refine⟨ops[i],by simp[b],?_,?_⟩
  ·intro hd;have:=(h.2 i).2 hd;rw[Ja,this]at U;simp at U
  ·intro e he ae;rw[show ops[i]?=some ops[i] by simp[b]]at a;simp only[Option.map_some,Option.getD_some]at a;rw[Array.all_eq_true_iff_forall_mem]at a;have:=a e (by simpa using he);rw[ae]at this;simp only[Bool.not_true,Bool.false_or]at this;exact(h.getD _).1 this
 ·rintro⟨o,b,U,a⟩;have ak:=(ae0.1 b).1;refine⟨ak,?_,?_⟩
  ·rw[Ja];have c:i<l.size:=by rw[h.1];exact ak
   have d:l[i]?≠some true:=fun e=>U ((h.2 i).1 e);simp only[Array.getElem?_eq_getElem c,Option.some.injEq,ne_eq,Bool.not_eq_true]at d;simp[c,d]
  ·rw[b];simp only[Option.map_some,Option.getD_some];rw[Array.all_eq_true_iff_forall_mem];intro e he;cases ae:Region.binds md e with
   |false=>simp|true=>simp[(h.getD e.on).2 (a e (by simpa using he) ae)]
theorem go_eq{fuel t:Nat} :Region.linearise.go md ops (fuel+1) t l []=(match(Region.ready md ops l)[t % (Region.ready md ops l).length]? with
   |some i=>i::Region.linearise.go md ops fuel (t / (Region.ready md ops l).length) (l.setIfInBounds i true) []|none=>[]):=by
 simp only[Region.linearise.go];change (match(Region.ready md ops l)[t % (Region.ready md ops l).length]? with
   |some i=>Region.linearise.go md ops fuel (t / (Region.ready md ops l).length) (l.setIfInBounds i true) [i]|none=>[].reverse)=_
 split
 ·rename_i i ak;rw[linearise_go_acc];simp
 ·simp
theorem go_topo :∀(fuel t:Nat)(l:Array Bool)(done:List Nat),pH ops l done->mM md ops done (Region.linearise.go md ops fuel t l [])
 |0,t,l,done,h=>by simp only[Region.linearise.go];exact .nil _|fuel+1,t,l,done,h=>by
  rw[go_eq];split
  ·rename_i i ak;obtain⟨o,h1,U,ai⟩:=(LV h i).1 (LW ak);exact .cons _ _ i o h1 U ai (go_topo fuel _ _ _ (h.set (ae0.1 h1).1))
  ·exact .nil _
variable {W:List Nat}
theorem alv :∀{a:List Nat},mM md ops a W->∀{l:Array Bool}{done:List Nat},pH ops l done->(∀i∈a,i∈done)->(∃i∈W,i∉done)->Region.ready md ops l≠[]:=by
 intro a b;induction b with
 |nil=>intro l done _ _ ⟨i,ak,_⟩;simp at ak|cons a L i o aA ak he cg ih =>
  intro l done h c d;by_cases hd:i∈done
  ·refine ih h (fun j k=>?_) ?_
   ·grind
   ·grind
  ·intro f;have:i∈Region.ready md ops l:=(LV h i).2 ⟨o,aA,hd,fun e g U=>c _ (he e g U)⟩;rw[f]at this;simp at this
variable {n:Nat}
theorem alw :∀{L:List Nat},L.Nodup->(∀i∈L,i<n)->L.length<=n:=by
 intro L a U;have:L ⊆ List.range n:=fun i ak=>aeZ.2 (U i ak);have h:=List.Nodup.length_le_of_subset a this;simpa using h
theorem alx(b:L.Nodup)(U:∀i∈L,i<n)(d:L.length=n):∀i,i<n->i∈L:=by
 intro i ak;by_cases h:i∈L
 ·exact h
 ·have:(i::L).Nodup:=List.nodup_cons.2 ⟨h,b⟩;have c:=alw this (n:=n) (by
   intro j a;rcases TH.1 a with rfl|a
   ·exact ak
   ·exact U j a)
  simp at c;omega
theorem go_len(eS:mM md ops [] W)(aly:W.length=ops.size):∀(fuel t:Nat)(l:Array Bool)(done:List Nat),pH ops l done->done.Nodup->(∀i∈done,i<ops.size)->fuel+done.length=ops.size->(Region.linearise.go md ops fuel t l []).length=fuel
 |0,t,l,done,h,_,_,_=>by simp[Region.linearise.go]|fuel+1,t,l,done,h,aL,hd,aR=>by
  have cc:Region.ready md ops l≠[]:=by
   refine alv eS h (by simp) ?_;by_cases hex:∃i∈W,i∉done
   ·exact hex
   ·have:W ⊆ done:=fun i ak=>by
     by_cases h:i∈done
     ·exact h
     ·exact absurd ⟨i,ak,h⟩ hex
    have:=List.Nodup.length_le_of_subset eS.nodup.1 this;omega
  rw[go_eq];split
  ·rename_i i ak;obtain⟨o,h1,U,ai⟩:=(LV h i).1 (LW ak);have nk:=(ae0.1 h1).1;rw[List.length_cons,go_len eS aly fuel _ _ (i::done) (h.set nk) (List.nodup_cons.2 ⟨U,aL⟩) (by
    intro j aZ;rcases TH.1 aZ with rfl|aZ
    ·exact nk
    ·exact hd j aZ) (by simp;omega)]
  ·rename_i ak;have ao:0<(Region.ready md ops l).length:=List.length_pos_iff.2 cc;have:=List.getElem?_eq_none_iff.1 ak;have hm:=Nat.mod_lt t ao;omega
def GS(md:Region.Mode):List Oper->Nat->Bool
 |[],_=>true|o::os,i=>(o.after.toList.all fun e=>!Region.binds md e||e.on<i)&&GS md os (i+1)
def AT(md:Region.Mode)(ops:Array Oper):Bool:=GS md ops.toList 0||(Region.linearise md ops 0).length==ops.size
theorem TI :∀(os:List Oper)(i:Nat)(done:List Nat),(∀k o,os[k]?=some o->ops[i+k]?=some o)->(∀j,j∈done↔j<i)->GS md os i=true->mM md ops done ((List.range os.length).map (i+·))
 |[],i,done,_,_,_=>by simp;exact .nil _|o::os,i,done,h,hd,ae=>by
  simp only[GS,I9,aB5,Bool.or_eq_true,Bool.not_eq_true',decide_eq_true_eq]at ae;rw[List.length_cons,List.range_succ_eq_map,List.map_cons,List.map_map];refine .cons _ _ (i+0) o (h 0 o (by simp)) (by simp[hd]) (fun e he b=>?_) ?_
  ·grind
  ·have:=TI os (i+1) (i::done) (fun k a hk=>by
    have:=h (k+1) a (by simpa using hk);rw[show i+1+k=i+(k+1) by omega];exact this) (fun j=>by simp[hd];omega) ae.2
   have e:((fun x=>i+x)∘Nat.succ)=fun x=>i+1+x:=by funext x;simp;omega
   rw[e];exact this
theorem pH.init(ops:Array Oper):pH ops (Array.replicate ops.size false) []:=⟨by simp,fun i=>by
 rw[Array.getElem?_replicate];split<;>simp⟩
theorem alz(h:AT md ops=true)(t:Nat):mM md ops [] (Region.linearise md ops t)/\(Region.linearise md ops t).length=ops.size:=by
 refine⟨go_topo _ _ _ _ (pH.init ops),?_⟩;simp only[AT,Bool.or_eq_true,beq_iff_eq]at h;have:∃W,mM md ops [] W/\W.length=ops.size:=by
  rcases h with h|h
  ·exact⟨_,TI ops.toList 0 [] (fun k o hk=>by simpa using hk) (by simp) h,by simp⟩
  ·exact⟨_,go_topo _ _ _ _ (pH.init ops),h⟩
 obtain⟨W,h1,U⟩:=this;exact go_len h1 U _ _ _ [] (pH.init ops) (by simp) (by simp) (by simp)
theorem alA{e:Edge}(h:Region.binds .any e=true):Region.binds md e=true:=by
 unfold Region.binds at h ⊢;split at h<;>simp_all
theorem mM.any(h:mM md ops done L):mM .any ops done L:=by
 induction h with
 |nil=>exact .nil _|cons done L i o aA ak he cg ih=>exact .cons _ _ i o aA ak (fun e a U=>he e a (alA U)) ih
theorem alB{S:Nat->Prop}(dg:∀j o,S j->ops[j]?=some o->∀e∈o.after.toList,Region.binds .any e=true->S e.on){j:Nat}(a:S j)(ae:((CheckFast.beforeF ops).getD j 0).testBit i=true):S i:=by
 have key:∀(l:List Oper)(A:Array Nat),(∀k o,l[k]?=some o->ops[A.size+k]?=some o)->(∀j i,S j->(A.getD j 0).testBit i=true->S i) ->
   ∀j i,S j->((l.foldl (fun acc o=>acc.push (CheckFast.one (fun i=>acc.getD i 0) o)) A).getD j 0).testBit i=true->S i:=by
  intro l;induction l with
  |nil=>intro A _ h;exact h|cons o l ih =>
   intro A f cq;simp only[List.foldl_cons];refine ih _ (fun k m hk=>?_) ?_
   ·have:=f (k+1) m (by simpa using hk);rw[Array.size_push,show A.size+1+k=A.size+(k+1) by omega];exact this
   ·intro j i a ae;rw[Ja,Array.getElem?_push]at ae;split at ae
    ·rename_i e;subst e;have aA:=f 0 o (by simp);simp only[Option.getD_some]at ae;have b:∀e∈o.after.toList,Region.binds .any e=true->S e.on:=dg _ o a (by simpa using aA);unfold CheckFast.one at ae;rw[<-Array.foldl_toList]at ae;have c:∀(es:List Edge)(z:Nat),(∀e∈es,Region.binds .any e=true->S e.on)->(z.testBit i=true->S i) ->
       (es.foldl (fun s e=>if Region.binds .any e=true then s||| 2 ^ e.on||| A.getD e.on 0 else s) z).testBit i=true->S i:=by
      intro es;induction es with
      |nil=>intro z _ d h;exact d h|cons e es p =>
       intro z b d;simp only[List.foldl_cons];refine p _ (fun q r=>b q (by simp[r])) ?_;intro g;split at g
       ·grind
       ·exact d g
     exact c _ 0 b (by simp) ae
    ·exact cq j i a (by rw[Ja];exact ae)
 rw[CheckFast.beforeF_eq]at ae;unfold Region.before at ae;rw[<-Array.foldl_toList]at ae;exact key ops.toList #[] (fun k o hk=>by simpa using hk) (by simp) j i a ae
section
variable {P:Program}{gl:cp}{D:bc}
variable {K:an->Prop}
theorem TK{b:bk}{e:List bk}(ae:br b.o≠9):∀(c:List bk),(∀a∈c,br a.o≠9/\indep a b=true)->∀{s:an},s.env.dQ->jL P gl D (c++b::e) s K->jL P gl D (b::(c++e)) s K
 |[],_,s,_,h=>h|a::c,h,s,az,g=>by
  obtain⟨j,U⟩:=h a (by simp);rw[List.cons_append,Dd]at g;have k:=GM (K':=fun f=>jL P gl D (b::(c++e)) f K) (fun f d=>TK ae c (fun a aE=>h a (by simp[aE])) d.2 d.1) (TE j az g);have m:mL P gl D s (fun o=>mL P gl D o (fun p=>jL P gl D (c++e) p K) b) a:=GM (fun f d=>Dd.1 d) k;have:=ali j ae az U m;rw[List.cons_append];exact Dd.2 (GM (fun f d=>Dd.2 d) this)
def TL(ops:Array Oper)(dc:List bk):Prop:=∀i j a b,i<j->dc[i]?=some a->dc[j]?=some b->indep a b=true\/((CheckFast.beforeF ops).getD j 0).testBit i=true
variable {dc:List bk}
theorem alC(G:dc.length=ops.size)(hk:∀it∈dc,br it.o≠9)(ao:TL ops dc) :
  ∀{done L:List Nat},mM .any ops done L->∀{T:List Nat}{s:an},T.Pairwise (·<·)->(∀x,x∈T↔x∈L)->(∀j∈done,∀o,ops[j]?=some o->∀e∈o.after.toList,Region.binds .any e=true->e.on∈done)->s.env.dQ ->
   jL P gl D (T.filterMap (dc[·]?)) s K->jL P gl D (L.filterMap (dc[·]?)) s K:=by
 intro done L cg;induction cg with
 |nil =>
  intro T s dL hm _ _ d;have:T=[]:=by
   cases T with
   |nil=>rfl|cons x T=>have:=(hm x).1 (by simp);simp at this
  subst this;exact d
 |cons done L i o aA ak he cg ih =>
  intro T s dL hm hd az d;have g:i∈T:=(hm i).2 (by simp);obtain⟨p,v,rfl⟩:=List.append_of_mem g;have H:=(ae0.1 aA).1;have c:dc[i]?=some (dc[i]'(by omega)):=by simp[show i<dc.length by omega]
  generalize dc[i]'(by omega)=b at c;rw[List.pairwise_append,List.pairwise_cons]at dL;obtain⟨J,⟨w,y⟩,k⟩:=dL;have z:=(mM.cons done L i o aA ak he cg).nodup;rw[List.filterMap_append,List.filterMap_cons,c]at d;simp only at d;have q:=TK (P:=P) (gl:=gl) (D:=D) (hk b (LW c)) (p.filterMap (dc[·]?)) (by
   intro a aE;rw[List.mem_filterMap]at aE;obtain⟨t,r,u⟩:=aE;refine⟨hk a (LW u),?_⟩;have A:=k t r i (by simp);rcases ao t i a b A u c with h|h
   ·exact h
   ·have:t∈i::done:=alB (S:=fun j=>j∈i::done) (fun j B m C e E ae=>by
     rcases TH.1 m with rfl|m
     ·grind
     ·exact TH.2 (.inr (hd j m B C e E ae))) (by simp) h
    rcases TH.1 this with e|h
    ·omega
    ·have:t∈i::L:=(hm t).1 (by simp[r]);exact absurd h (z.2 t this)) az d
  rw[List.filterMap_cons,c];simp only;rw[Dd]at q ⊢;refine GM (fun O f=>?_) (TE (hk b (LW c)) az q);obtain⟨f,F⟩:=f;rw[<-List.filterMap_append]at f;refine ih (T:=p++v) ?_ ?_ ?_ F f
  ·grind
  ·grind
  ·grind
def GX(b:List Nat)(rest:List bk):Nat->List bk->Bool
 |_,[]=>true|i,a::dc=>(match rest with|[]=>true|_::r=>(List.zip b r).all (fun p=>p.1.testBit i||indep a p.2)&&GX b.tail r (i+1) dc)
def GY(ops:Array Oper)(dc:List bk):Bool:=AT .any ops&&AT .text ops&&AT .gc ops&&dc.all (fun it=>br it.o != 9)&&GX (CheckFast.beforeF ops).toList.tail dc 0 dc
theorem alF{B:List Nat}(fl:B.length=dc.length):∀(k:Nat)(l:List bk),l=dc.drop k->GX (B.drop (k+1)) l k l=true->∀i j a b,k<=i->i<j->dc[i]?=some a->dc[j]?=some b->(B.getD j 0).testBit i=true\/indep a b=true:=by
 intro k l;induction l generalizing k with
 |nil =>
  intro c _ i j a b d h aE ae;have:dc.length<=k:=by simp_all
  have:=(List.getElem?_eq_some_iff.1 aE).1;omega
 |cons x l ih =>
  intro c f i j a b d h aE ae;simp only[GX,I9,aB5]at f;have m:l=dc.drop (k+1):=by
   have:=congrArg List.tail c;simpa[List.tail_drop]using this
  by_cases e:k=i
  ·subst e;have ah:x=a:=by
    have:(dc.drop k)[0]?=some x:=by rw[<-c];rfl
    rw[List.getElem?_drop,Nat.add_zero,aE]at this;exact(Option.some.inj this).symm
   subst ah;have g:j<B.length:=by grind
   have hm:(B.getD j 0,b)∈List.zip (B.drop (k+1)) l:=by
    refine LW (i:=j-(k+1)) ?_;rw[List.getElem?_zip_eq_some];rw[m,List.getElem?_drop,List.getElem?_drop,show k+1+(j-(k+1))=j by omega];refine⟨?_,ae⟩;rw[List.getD_eq_getElem?_getD,List.getElem?_eq_getElem g];rfl
   have:=f.1 _ hm;simpa[Bool.or_eq_true]using this
  ·refine ih (k+1) m ?_ i j a b (by omega) h aE ae;have:=f.2;rwa[List.tail_drop]at this
theorem alI(e:dc.length=ops.size)(h:GY ops dc=true):(∀md,AT md ops=true)/\(∀it∈dc,br it.o≠9)/\TL ops dc:=by
 simp only[GY,I9,aB5,bne_iff_ne]at h;obtain⟨⟨⟨⟨m,U⟩,p⟩,g⟩,d⟩:=h;refine⟨fun md=>by cases md<;>assumption,g,?_⟩;intro i j a b k aE ae;have c:(CheckFast.beforeF ops).toList.length=dc.length:=by
  rw[CheckFast.beforeF_eq];unfold Region.before;rw[e,<-Array.foldl_toList];have:∀(l:List Oper)(A:Array Nat)(f:Array Nat->Oper->Nat),(l.foldl (fun acc o=>acc.push (f acc o)) A).size=A.size+l.length:=by
   intro l;induction l with
   |nil=>intro A f;simp|cons o l ih=>intro A f;simp only[List.foldl_cons];rw[ih];simp;omega
  simpa using this ops.toList #[] _
 have fl:(CheckFast.beforeF ops).toList.tail=(CheckFast.beforeF ops).toList.drop (0+1):=by simp
 rw[fl]at d;rcases alF c 0 dc (by simp) d i j a b (by omega) k aE ae with h|h
 ·right;rwa[Ja,<-Array.getElem?_toList,<-List.getD_eq_getElem?_getD]
 ·exact .inl h
theorem alJ{m:Bool}{s:an}(a:dc.length=ops.size)(hd:GY ops dc=true)(az:s.env.dQ)(t:Nat)(c:jL P gl D dc s K) :
  jL P gl D ((Region.schedule m ops t).filterMap (dc[·]?)) s K:=by
 obtain⟨e,U,d⟩:=alI a hd;have key:∀md t,jL P gl D ((Region.linearise md ops t).filterMap (dc[·]?)) s K:=by
  intro md t;obtain⟨b,f⟩:=alz (e md) t;have g:jL P gl D ((List.range ops.size).filterMap (dc[·]?)) s K:=by
   have:(List.range ops.size).filterMap (dc[·]?)=dc:=by
    rw[<-a];clear c a hd U d;induction dc with
    |nil=>rfl|cons x xs ih =>
     rw[List.length_cons,List.range_succ_eq_map,List.filterMap_cons];simp only[List.getElem?_cons_zero,List.filterMap_map];congr 1
   rw[this];exact c
  exact alC a U d b.any List.pairwise_lt_range (fun x=>⟨fun ah=>alx b.nodup.1 b.lt f x (aeZ.1 ah),fun ah=>aeZ.2 (b.lt x ah)⟩) (by simp) az g
 unfold Region.schedule;split<;>exact key _ _
end
section
variable (P:Program)(N:Nat)
def hI:Code->aG->Bool
 |c,.FA _ s=>hI c s|c,.drop _ s=>hI c s|c,.kill _ s=>hI c s|c,.qi _ e sz s=>jE P e sz&&hI c s|c,.sc _ _ e sz s=>jE P e sz&&hI c s|.skip,.skip=>true|.region _ ops draw,.ab dc _=>AI P N ops ops.toList dc&&(!draw||GY ops dc)|.seq a b,.seq ch bU=>hI a ch&&hI b bU|.cond c a b,.cond ia ch bU=>ds c ia&&hI a ch&&hI b bU|.block i c,.block nX ia=>i==nX&&hI c ia|.loop c,.loop ia=>hI c ia|.exit i,.exit j=>i==j|.ret,.ret=>true|_,.bad=>true|_,_=>false
end
section
variable {P:Program}{gl:cp}{D:bc}{N:Nat}{g g':bo}{s s':an}{a:Act}{w w':World}{o:Oper}
def GZ:kn->Exit
 |.normal=>.normal|.exit i=>.exit i|.ret=>.ret
def G0(P:Program)(gl:cp)(N:Nat)(g:bo)(w:World)(Q:kn->an->Prop)(e:Exit)(ch:Act)(w':World):Prop :=
 ∃ex s' g',e=GZ ex/\Q ex s'/\ef g w g' w'/\Rel P gl N g' s' ch w'
theorem TM :∀(b t:Nat)(l:Array Bool)(acc:List Nat),(∀i∈acc,i<ops.size)->∀i∈Region.linearise.go md ops b t l acc,i<ops.size
 |0,_,_,acc,h,i,ak=>h i (by simpa[Region.linearise.go]using ak)|b+1,t,l,acc,h,i,ak=>by
  simp only[Region.linearise.go]at ak;split at ak
  ·rename_i j c;refine TM b _ _ (j::acc) (fun k hk=>?_) i ak;rcases TH.1 hk with rfl|hk
   ·grind
   ·exact h k hk
  ·exact h i (by simpa using ak)
theorem alK{m:Bool}{t:Nat}:∀i∈Region.schedule m ops t,i<ops.size:=by
 intro i ak;unfold Region.schedule at ak;split at ak<;>exact TM _ _ _ [] (by simp) i ak
variable {v:Value}
theorem bb.alL{own:Option Nat}{sz:Nat}{xs:List AV}(h:bb g (.list own sz xs) v):xs.length<=M:=by
 have ao:∀{v},df g.γ (.list none sz xs) v->xs.length<=M:=fun h=>by
  cases h with
  |jD=>simp|list _ _ _ _ _ h=>exact h
 cases h with
 |pure _ _ h=>cases own with
  |none=>exact ao h|some e=>cases h
 |own _ _ _ _ h=>exact ao h
theorem bb.G1{l:List UInt8}(h:bb g (.str l) v):l.length<=M:=by
 cases h with
 |pure _ _ h=>cases h with
  |str _ h=>exact h
theorem Rel.kill(h:Rel P gl N g s a w)(t:Nat):Rel P gl N g (AF s t) a w:=by
 unfold AF;split
 ·exact h.dead _
 ·exact h.dead _
 ·exact h
theorem alM:∀(gA:aG)(c:Code),hI P N c gA=true->∀(Q:kn->an->Prop)(s:an)(g:bo)(a:Act)(w:World),Rel P gl N g s a w->exec P gl D gA s Q->c.wp P (G0 P gl N g w Q) a w:=by
 intro gA;induction gA with
 |skip =>
  intro c f Q s g a w h ah;cases c<;>simp[hI]at f;exact wp_skip ⟨.normal,s,g,rfl,ah,.refl _ _,h⟩
 |ret =>
  intro c f Q s g a w h ah;cases c<;>simp[hI]at f;exact wp_ret ⟨.ret,s,g,rfl,ah,.refl _ _,h⟩
 |exit i =>
  intro c f Q s g a w h ah;cases c<;>simp[hI]at f;subst f;exact wp_exit ⟨.exit _,s,g,rfl,ah,.refl _ _,h⟩
 |FA t gA ih =>
  intro c f Q s g a w h ah;have r:hI P N c gA=true:=by cases c<;>simpa[hI]using f
  simp only[exec]at ah;split at ah
  ·rename_i own sz xs F;obtain⟨v,_,U,_⟩:=h.env _ _ F;exact ih c r Q s g a w h (ah U.alL)
  ·rename_i l F;obtain⟨v,_,U,_⟩:=h.env _ _ F;exact ih c r Q s g a w h (ah U.G1)
  ·exact ah.elim
 |drop bu gA ih =>
  intro c f Q s g a w h ah;have r:hI P N c gA=true:=by cases c<;>simpa[hI]using f
  exact ih c r Q _ g a w (h.close bu) ah
 |kill t gA ih =>
  intro c f Q s g a w h ah;have r:hI P N c gA=true:=by cases c<;>simpa[hI]using f
  exact ih c r Q _ g a w (h.kill t) ah
 |qi t e sz gA ih =>
  intro c f Q s g a w h ah;have r:jE P e sz=true/\hI P N c gA=true:=by cases c<;>simpa[hI]using f
  simp only[exec]at ah;split at ah
  ·rename_i u R;obtain⟨p,S,T⟩:=h.qi r.1 R;refine wp_mono (ih c r.2 Q u p a w T ah) ?_;rintro e B cv ⟨ex,E,C,rfl,m,d,U⟩;exact⟨ex,E,C,rfl,m,S.trans d,U⟩
  ·exact ah.elim
 |sc t off e sz gA ih =>
  intro c f Q s g a w h ah;have r:jE P e sz=true/\hI P N c gA=true:=by cases c<;>simpa[hI]using f
  simp only[exec]at ah;split at ah
  ·rename_i u R;obtain⟨p,S,T⟩:=h.sc r.1 R;refine wp_mono (ih c r.2 Q u p a w T ah) ?_;rintro e B cv ⟨ex,E,C,rfl,m,d,U⟩;exact⟨ex,E,C,rfl,m,S.trans d,U⟩
  ·exact ah.elim
 |bad=>intro c f Q s g a w h ah;exact ah.elim|ab dc V =>
  intro c f Q s g a w h ah;cases c<;>simp only[hI,fM]at f;rename_i id ops G;simp only[I9]at f;obtain⟨Y,jv⟩:=SY f.1;simp only[Array.length_toList]at Y;have TN:∀i,i<ops.size->∃o it,ops[i]?=some o/\dc[i]?=some it/\C2 P N ops o it=true:=fun i ak=>by
   refine⟨ops[i],dc[i]'(by omega),by simp[ak],by simp[show i<dc.length by omega],jv i _ _ (by simp[ak]) (by simp[show i<dc.length by omega])⟩
  have w1:∀s' g' q w',(fun s':an=>Q .normal { s' with env:=s'.env.close V }) s'->ef g w g' w'->Rel P gl N g' s' q w'->G0 P gl N g w Q .normal q w' :=
   fun s' g' q w' hk d Z=>⟨.normal,_,g',rfl,hk,d,Z.close V⟩
  cases G with
  |false =>
   refine wp_region (SX (D:=D) w1 _ (fun i ak=>TN i (by simpa using ak)) s g a w h (.refl _ _) ?_);rw[Y,akq];exact ah
  |true =>
   simp only[Bool.not_true,Bool.false_or]at f;refine wp_region_draw fun t=>?_;have alN:∀s' g' q w',(fun s':an=>Q .normal { s' with env:=s'.env.close V }) s'->ef g { w with drawn:=w.drawn+1 } g' w'->Rel P gl N g' s' q w'->G0 P gl N g w Q .normal q w' :=
    fun s' g' q w' hk d Z=>w1 s' g' q w' hk ⟨⟨d.γ,d.b4⟩,d.outer,d.size,d.os,d.out⟩ Z
   exact SX (D:=D) alN _ (fun i ak=>TN i (alK i ak)) s g a _ h.drawn (.refl _ _) (alJ Y.symm f.2 h.sorted t ah)
 |seq x y alO LY =>
  intro c f Q s g a w h ah;cases c<;>simp only[hI,fM]at f;simp only[I9]at f;refine wp_seq (wp_mono (alO _ f.1 _ s g a w h ah) ?_);rintro e B cv ⟨ex,u,p,rfl,m,d,A⟩;cases ex with
  |normal =>
   refine wp_mono (LY _ f.2 Q u p B cv A m) ?_;rintro e K O ⟨ex,E,C,rfl,w8,H,U⟩;exact⟨ex,E,C,rfl,w8,d.trans H,U⟩
  |exit i=>exact⟨.exit i,u,p,rfl,m,d,A⟩|ret=>exact⟨.ret,u,p,rfl,m,d,A⟩
 |cond x y z LY alP =>
  intro c f Q s g a w h ah;cases c<;>simp only[hI,fM]at f;simp only[I9]at f;simp only[exec]at ah;split at ah
  ·rename_i t F;have ar:=c9 h f.1.1 F;refine wp_cond ar.nV ?_;cases t with
   |true=>exact LY _ f.1.2 Q s g a w h ah|false=>exact alP _ f.2 Q s g a w h ah
  ·exact ah.elim
 |block i x ih =>
  intro c f Q s g a w h ah;cases c<;>simp only[hI,fM]at f;simp only[I9,beq_iff_eq]at f;obtain⟨rfl,f⟩:=f;refine wp_block (wp_mono (ih _ f _ s g a w h ah) ?_);rintro e B cv ⟨ex,u,p,rfl,m,d,A⟩;cases ex with
  |normal=>exact⟨.normal,u,p,rfl,m,d,A⟩|exit j =>
   simp only[GZ,Exit.inBlock];simp only at m;split<;>rename_i aZ
   ·rw[if_pos aZ]at m;exact⟨.normal,u,p,rfl,m,d,A⟩
   ·rw[if_neg aZ]at m;exact⟨.exit j,u,p,rfl,m,d,A⟩
  |ret=>exact⟨.ret,u,p,rfl,m,d,A⟩
 |loop x ih =>
  intro c f Q s g a w h ah;cases c<;>simp only[hI,fM]at f;rename_i c;intro b k cs;let X:an->Prop:=fun s=>∀p B cv,Rel P gl N p s B cv->ef g w p cv ->
   ∃e q w',G0 P gl N g w Q e q w'/\Arrives P (lone (b.at B (.code c::.inLoop c::k)) cs cv) b k cs e q w'
  have key:X s:=by
   refine ah X fun s cV p B cv A d=>?_;obtain⟨e,K,O,⟨ex,E,C,rfl,m,H,U⟩,J⟩:=ih c f _ s p B cv A cV b (.inLoop c::k) cs;cases ex with
   |normal =>
    obtain⟨e1,a3,gB,alQ,alR⟩:=m C K O U (d.trans H);exact⟨e1,a3,gB,alQ,.of_steps (Steps.trans J (.one step_inLoop)) alR⟩
   |exit i=>exact⟨_,K,O,⟨.exit i,E,C,rfl,m,d.trans H,U⟩,.pass (x:=.inLoop c) rfl (fun _ _=>.inl (by simp[GZ])) J⟩|ret=>exact⟨_,K,O,⟨.ret,E,C,rfl,m,d.trans H,U⟩,.pass (x:=.inLoop c) rfl (fun _ _=>.inl (by simp[GZ])) J⟩
  obtain⟨e,q,w',m,J⟩:=key g a w h (.refl _ _);exact⟨e,q,w',m,.of_steps (.one step_loop) J⟩
end
def AY(P:Program):ResultVar->bF->Bool
 |.tmp t,.t ix=>t==ix|.cell x t,.b bx sz=>x==bx&&(match P.info? t with|some i=>i.size==sz|none=>false)&&(match P.underlying t with|some (.struct _)=>true|_=>false)|_,_=>false
def tB(P:Program):List ResultVar->List bF->Bool
 |[],[]=>true|r::rs,v::vs=>AY P r v&&tB P rs vs|_,_=>false
def bN(P:Program)(f k:Nat)(gA:aG)(hT:List bF):Bool :=
 j6 P f&&match P.funcs[f]? with
 |some fn=>(match fn.body with|some c=>hI P fn.ntmps c gA&&tB P fn.results.toList hT&&decide (k<=fn.ntmps)|none=>false)|none=>false
def l5:Nat->List AV->Env
 |_,[]=>[]|i,x::xs=>(i,.v x)::l5 (i+1) xs
def AV.res:AV->Bool
 |.list _ _ _=>true|.a8 vs=>vs.all AV.arg|x=>x.arg
def yQ(K:an->Prop):kn->an->Prop
 |.exit _,_=>False|_,s=>K s
def Di(tmps:Array Value):ResultVar->Sem Value
 |.tmp t=>pure (tmps.getD t undef)|.cell x t=>do loadVar t (<-asAddr (tmps.getD x undef))
theorem alS(fn:Func)(tmps:Array Value):results fn tmps=(fn.results.mapM (Di tmps)) >>= fun vs=>pure (if h:vs.size=1 then vs[0]else .tuple vs):=by
 unfold results;refine congrArg (fun x:Sem (Array Value)=>x >>= _) (congrArg (fun F=>Array.mapM F fn.results) (funext fun r=>?_));cases r<;>rfl
section
variable {P:Program}{gl:cp}{D:bc}{N:Nat}{g g':bo}{s s':an}{a:Act}{w w':World}{o:Oper}
variable {x:AV}
theorem TO(h:Rel P gl N g s a w){r:ResultVar}{f:bF}(d:AY P r f=true)(ah:AG s.env f=some x) :
  ∃v,(Di a.tmps r).run P w=.ok v w/\bb g x v/\(cP x\/∃t,f=.t t/\e6 P g w (.var t) x v):=by
 cases r with
 |tmp t =>
  cases f with
  |b=>simp[AY]at d|t H =>
   simp[AY]at d;subst d;simp only[AG]at ah;split at ah
   ·rename_i y q;simp at ah;subst ah;obtain⟨v,j,U,u⟩:=h.env _ _ q;have:a.tmps.getD t undef=v:=by simp[Ja,j]
    exact⟨v,by simp[Di,this],U,.inr ⟨t,rfl,u⟩⟩
   ·cases ah
 |cell c t =>
  cases f with
  |t=>simp[AY]at d|b J sz =>
   simp only[AY,I9,beq_iff_eq]at d;obtain⟨⟨rfl,k⟩,hk⟩:=d;simp only[AG]at ah;split at ah
   ·rename_i cs z;split at ah
    ·rename_i m;simp at ah;subst ah;obtain⟨b,j,U⟩:=h.env _ _ z;obtain⟨ws,A,p,B,C⟩:=U.cells (off:=0) (n:=cs.length);simp only[List.drop_zero,List.take_length]at A p;split at k
     ·rename_i i ak;simp at k;split at hk
      ·rename_i E F;have ao:a.tmps.getD c undef=ptrTo b 0:=by simp[Ja,j]
       have G:=FT (P:=P) (w:=w) (b:=b) (off:=0) ak F (by omega) C (.inl ⟨E,rfl⟩);refine⟨.agg ws.toArray,?_,.agg _ _ p.aW B,.inl fun e sz xs h=>by simp at h⟩;simp only[Di,ao];simpa[Instr.loadAt,Instr.sureAddr,ptrTo,asAddr]using G
      ·cases hk
     ·cases k
    ·cases ah
   ·cases ah
theorem TP(h:Rel P gl N g s a w):∀{c:List ResultVar}{hT:List bF}{xs:List AV},tB P c hT=true->AH s.env hT=some xs ->
  xs.length=hT.length/\∃vs,(c.mapM (Di a.tmps)).run P w=.ok vs w/\cr g xs vs
 |[],[],xs,_,ah=>by simp[AH]at ah;subst ah;exact⟨rfl,[],by simp,.nil⟩|[],_::_,_,b,_=>by simp[tB]at b|_::_,[],_,b,_=>by simp[tB]at b|r::c,p::hT,xs,b,ah=>by
  simp only[tB,I9]at b;simp only[AH]at ah;split at ah
  ·rename_i y q d U;simp at ah;subst ah;obtain⟨v,e,f,_⟩:=TO h b.1 d;obtain⟨j,vs,k,m⟩:=TP h b.2 U;refine⟨by simp[j],v::vs,?_,.cons _ _ _ _ f.aW m⟩;rw[List.mapM_cons,Sem.run_bind,e];simp only[Result.andThen_ok,Sem.run_bind];rw[k];simp
  ·cases ah
variable {hT:List bF}
theorem alT(h:Rel P gl N g s a w){fn:Func}(b:tB P fn.results.toList hT=true)(ah:ts s.env hT=some x) :
  ∃v,(results fn a.tmps).run P w=.ok v w/\bb g x v/\(cP x\/∃t,hT=[.t t]/\e6 P g w (.var t) x v):=by
 rw[alS,Array.mapM_eq_mapM_toList];unfold ts at ah;split at ah
 ·rename_i j;generalize fn.results.toList=rs at b
  match rs,b with
  |[r],b =>
   simp only[tB,Bool.and_true]at b;obtain⟨v,f,U,k⟩:=TO h b ah;refine⟨v,?_,U,k.imp id fun⟨t,m,p⟩=>⟨t,by rw[m],p⟩⟩;simp[f]
  |_::_::_,b=>simp[tB]at b
 ·rename_i cc;rw[Option.map_eq_some_iff]at ah;obtain⟨xs,q,rfl⟩:=ah;obtain⟨c,vs,f,U⟩:=TP h b q;refine⟨.tuple vs.toArray,?_,.a8 _ _ U,.inl fun e sz xs h=>by simp at h⟩;have d:vs.length≠1:=by
   intro d;rw[U.get.1,c]at d
   match hT,d with
   |[j],_=>exact cc j rfl
  simp[f,d]
theorem TQ:∀(xs:List AV)(i t:Nat),Env.get (l5 i xs) t=if i<=t then(xs[t-i]?).map .v else none
 |[],i,t=>by simp[l5,Env.get]|x::xs,i,t=>by
  simp only[l5,Env.get,TQ xs (i+1) t];by_cases b:t=i
  ·subst b;simp
  ·grind
theorem TR:∀(xs:List AV)(i:Nat),∀p∈l5 i xs,i<=p.1
 |[],_,p,h=>by simp[l5]at h|x::xs,i,p,h=>by
  simp only[l5,TH]at h;rcases h with rfl|h
  ·simp
  ·have:=TR xs (i+1) p h;omega
theorem LZ:∀(xs:List AV)(i:Nat),(l5 i xs).Pairwise fun p q=>p.1<q.1
 |[],_=>.nil|x::xs,i=>by
  simp only[l5,List.pairwise_cons];exact⟨fun p ao=>by have:=TR xs (i+1) p ao;simp;omega,LZ xs (i+1)⟩
variable {f:Nat}{gA:aG}
theorem w9{k:Nat}(h:bN P f k gA hT=true):j6 P f=true/\∃fn c,P.funcs[f]?=some fn/\fn.body=some c /\
  hI P fn.ntmps c gA=true/\tB P fn.results.toList hT=true/\k<=fn.ntmps:=by
 simp only[bN,I9]at h;obtain⟨b,h⟩:=h;split at h
 ·grind
 ·cases h
theorem TS{xs:List AV}{vs:List Value}{H:List ax}{Q:an->Prop}(E:bN P f xs.length gA hT=true)
  (h:Rel P gl 0 g (lz H) su w)(A:cr g xs vs)(aA:∀(i:Nat)x v,xs[i]?=some x->vs[i]?=some v->e6 P g w (.var i) x v)
  (he:exec P gl D gA ⟨l5 0 xs,H⟩ (yQ Q))(F:∀s,Q s->(ts s.env hT).isSome=true) :
  Calls P f vs.toArray w fun e w'=>∃v r s' g' j k,e=.returned v/\Q s'/\ts s'.env hT=some r/\ef g w g' w'/\Rel P gl k g' s' j w'/\bb g' r v /\
   (cP r\/∃t,hT=[.t t]/\e6 P g' w' (.var t) r v):=by
 obtain⟨_,fn,c,G,U,J,K,T⟩:=w9 E;have B:vs.length=xs.length:=A.get.1;have dN:Rel P gl fn.ntmps g ⟨l5 0 xs,H⟩ { tmps:=vs.toArray++Array.replicate (fn.ntmps-vs.toArray.size) undef,defers:=[] } w:=by
  refine⟨LZ xs 0,by simp;omega,rfl,fun t e he=>?_,h.heap,h.ff,h.own,h.gz,h.fE⟩;rw[TQ]at he;simp only[Nat.zero_le,if_true,Nat.sub_zero,Option.map_eq_some_iff]at he;obtain⟨x,ah,rfl⟩:=he;obtain⟨v,d,m⟩:=A.get.2 t x ah;have O:t<vs.length:=by grind
  exact⟨v,by simp[Array.getElem?_append,O,<-d],m,aA t x v ah d⟩
 refine calls_of_wp G U (wp_mono (alM gA c J _ _ g _ w dN he) ?_);rintro e p cv ⟨ex,q,R,rfl,b,u,y⟩;have key:Q q->p.defers=[]/\∃v,(results fn p.tmps).run P cv=.ok v cv/\∃z r s' g' j k,Ending.returned v=.returned z/\Q s'/\ts s'.env hT=some r/\ef g w g' cv/\Rel P gl k g' s' j cv/\bb g' r z /\
   (cP r\/∃t,hT=[.t t]/\e6 P g' cv (.var t) r z):=fun b=>by
  obtain⟨r,C⟩:=Option.isSome_iff_exists.1 (F q b);obtain⟨v,d,m,S⟩:=alT y K C;exact⟨y.defers,v,d,v,r,q,R,p,_,rfl,b,C,u,y,m,S⟩
 cases ex with
 |normal=>exact key b|exit i=>exact b.elim|ret=>exact key b
end
section
variable {P:Program}{gl:cp}{D:bc}{N:Nat}{g g':bo}{s s':an}{a:Act}{w w':World}{o:Oper}
variable {f:Nat}{gA:aG}{hT:List bF}{xs:List AV}
theorem bn.intro{H:List ax}{K:AV->List ax->Prop}(m:bN P f xs.length gA hT=true)
  (he:exec P gl D gA ⟨l5 0 xs,H⟩ (yQ fun s=>∃r,ts s.env hT=some r/\K r s.heap)):bn P gl f xs H K:=by
 refine⟨(w9 m).1,fun g w vs h q aA=>(TS m h q aA he fun s ⟨r,c,_⟩=>by simp[c]).mono ?_⟩;rintro e w' ⟨v,r,s',g',V,X,rfl,⟨Y,d,u⟩,c,hle,hrel,x,k⟩;rw[c]at d;simp at d;subst d;let bD:Nat->ey:=fun b=>match g'.bD b with
  |.outer=>.outer|.bA id=>.bA id|.oc id i=>.oc id i|.var _=>.var 0|_=>.none
 have y:∀b,bD b≠.none->b<w'.heap.size:=fun b ae=>hrel.own b fun e=>ae (by simp[bD,e]);refine⟨v,r,s'.heap,⟨g'.γ,bD,g'.b4⟩,rfl,u,⟨⟨hle.γ,hle.b4⟩,fun b ae=>?_,hle.size,hle.os,hle.out⟩,hrel.SN bD ?_ y,x.mono (⟨fun _ _ _ h=>h,fun _ _ h=>h⟩:GhLe g' ⟨g'.γ,bD,g'.b4⟩),?_⟩
 ·obtain⟨A,B,C⟩:=hle.outer b ae;exact⟨by simp[bD,A],B,C⟩
 ·grind
 ·rcases k with E|⟨t,_,k⟩
  ·exact E.gb
  ·intro e sz F ah;obtain⟨j,z,us,G,J,O,Q,R,S,T,U,p⟩:=k e sz F ah;exact⟨j,z,us,G,J,O,Q,R,S,T,U,fun b ae=>⟨by simp[bD,(p b ae).1],(p b ae).2⟩⟩
variable {x:AV}{v:Value}
theorem bb.yR(h:bb g x v)(ah:x.arg=true)(g':bo)(b:g'.γ=g.γ):bb g' x v :=
 (SL h ah).mono ⟨by rw[b];exact fun _ _ _ h=>h,fun _ _ h=>by cases h⟩
theorem cr.yR{vs:List Value}(h:cr g xs vs)(ah:xs.all AV.arg=true)(g':bo)(b:g'.γ=g.γ):cr g' xs vs :=
 (Ls h ah).mono ⟨by rw[b];exact fun _ _ _ h=>h,fun _ _ h=>by cases h⟩
theorem bb.Dk(h:bb g x v)(ah:x.res=true)(g':bo)(b:g'.γ=g.γ):bb g' x v:=by
 cases x with
 |list own sz xs =>
  cases h with
  |pure _ _ h=>exact .pure _ _ (by rw[b];exact h)|own e _ _ _ h=>exact .own _ _ _ _ (by rw[b];exact h)
 |a8 vs =>
  cases h with
  |pure _ _ h=>cases h|a8 _ ws h=>exact .a8 _ _ (h.yR ah g' b)
 |_=>exact h.yR ah g' b
theorem Dl(h:x.arg=true):cP x:=by
 intro e sz xs ah;subst ah;simp[AV.arg,AV.pure,AV.eb]at h
theorem aF.intro{r:AV}(y:bN P f xs.length gA hT=true)(ah:xs.all AV.arg=true)(A:r.res=true)
  (he:exec P gl D gA ⟨l5 0 xs,[]⟩ (yQ fun s=>ts s.env hT=some r)):aF P gl f xs r:=by
 intro γ w vs B C E;let g:bo:=⟨γ,fun b=>if b<w.heap.size then .outer else .none,fun _=>none⟩
 have d:Rel P gl 0 g (lz []) su w :=
  ⟨.nil,rfl,rfl,fun t e he=>by simp[lz,Env.get]at he,fun id bA F=>by simp[lz]at F,B,fun b ae=>by
   by_cases h:b<w.heap.size
   ·exact h
   ·simp[g,h]at ae,C,fun id b h=>by cases h⟩
 have G:∀x∈xs,cP x:=fun x H=>Dl (aB5.1 ah x H);refine(TS y d (E.yR ah g rfl) (fun i x v h _=>(G x (LW h)).gb) he fun s h=>by simp[h]).mono ?_;rintro e w' ⟨v,r',s',g',ch,Dj,rfl,J,k,c,K,O,m⟩;rw[J]at k;simp at k;subst k;have p:∀b,b<w.heap.size->g'.bD b=.outer/\w'.heap[b]?=w.heap[b]?/\∀o,g'.γ b o=γ b o:=fun b ae=>c.outer b (by simp[g,ae]);refine⟨v,g'.γ,rfl,c.γ,c.size,fun b ae=>(p b ae).2,⟨c.os,c.out⟩,K.ff,O.Dk A _ rfl,?_⟩;rcases m with Q|⟨t,_,m⟩
 ·exact Q.gb
 ·intro e sz R ah;obtain⟨j,z,us,S,T,U,V,X,Y,Z,m8,u⟩:=m e sz R ah;refine⟨j,z,us,S,T,U,V,X,Y,Z,m8,fun b ae=>⟨?_,(u b ae).2⟩⟩;have q:=(u b ae).1;have:¬b<w.heap.size:=fun h=>by rw[(p b h).1]at q;cases q
  simp[u4,this]
theorem oY:∀(gA:aG){s:an}{Q k:kn->an->Prop},exec P gl D gA s Q->(∀e s,Q e s->k e s)->exec P gl D gA s k
 |.skip,_,_,_,h,b=>b _ _ h|.ab _ _,_,_,_,h,b=>Gw (fun _ h=>b _ _ h) h|.seq x y,_,_,_,h,b=>oY x h fun e s h=>by
  cases e with
  |normal=>exact oY y h b|exit i=>exact b _ _ h|ret=>exact b _ _ h
 |.cond c x y,s,_,_,h,b=>by
  simp only[exec]at h ⊢;split at h
  ·split at h
   ·rw[if_pos (by assumption)];exact oY x h b
   ·rw[if_neg (by assumption)];exact oY y h b
  ·exact h.elim
 |.block i c,_,_,_,h,b=>oY c h fun e s h=>by
  cases e with
  |normal=>exact b _ _ h|exit j=>grind|ret=>exact b _ _ h
 |.loop c,_,_,_,h,b=>fun X bp=>h X fun s az=>bp s (oY c az fun e s h=>by
  cases e with
  |normal=>exact h|exit i=>exact b _ _ h|ret=>exact b _ _ h)
 |.exit _,_,_,_,h,b=>b _ _ h|.ret,_,_,_,h,b=>b _ _ h|.FA t c,s,_,_,h,b=>by
  simp only[exec]at h ⊢;split at h
  ·exact fun d=>oY c (h d) b
  ·exact fun d=>oY c (h d) b
  ·exact h.elim
 |.drop _ c,_,_,_,h,b=>oY c h b|.kill _ c,_,_,_,h,b=>oY c h b|.qi t e sz c,s,_,_,h,b=>by
  simp only[exec]at h ⊢;split at h
  ·exact oY c h b
  ·exact h.elim
 |.sc t off e sz c,s,_,_,h,b=>by
  simp only[exec]at h ⊢;split at h
  ·exact oY c h b
  ·exact h.elim
 |.bad,_,_,_,h,_=>h.elim
theorem alU{c:aG}{s:an}{Q:kn->an->Prop}(h:exec P gl D c s fun e s'=>match e with|.normal=>exec P gl D (.loop c) s' Q|e=>Q e s'):exec P gl D (.loop c) s Q:=by
 intro X bp;refine bp s (oY c h fun e s' h=>?_);cases e with
 |normal=>exact h X bp|exit i=>exact h|ret=>exact h
end
abbrev L1:=AV×List ax
abbrev L2:=Nat->List AV->List ax->Option (List L1)
section
variable (gl:cp)(call:L2)
def fin(s:an)(d:Option Nat)(p:L1):Option (List an):=(({ s with heap:=p.2 }:an).fr d p.1).map fun s=>[s]
end
end AM
