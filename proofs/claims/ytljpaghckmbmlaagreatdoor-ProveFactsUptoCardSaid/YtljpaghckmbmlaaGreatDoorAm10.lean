/- An abstract machine, and what of the given program it does, part 11. Conditions: none. -/
import Derived.Test.YtljpaghckmbmlaaGreatDoorAm9
import Derived.ChangeSame
import Derived.OpenShut
import Derived.LaidLaws
set_option linter.unusedSimpArgs false
set_option linter.unusedVariables false
namespace AM
open Option renaming map_eq_some_iff -> aqt,bind_eq_some_iff -> aqv
open List renaming map_cons -> aqw,drop_drop -> aqx,suffix_rfl -> aqB,contains_eq_mem -> aqE,replicate -> aqH,take_of_length_le -> aqI
open Go
open Enc (enc)
def bf:List e2->List AV
 |[]=>[]|x::r=>.str x.name::.int .i64 x.level::bf r
theorem eb:∀l:List e2,(bf l).length=l.length*2
 |[]=>rfl|t::r=>by simp only[bf,List.length_cons,eb r];omega
theorem Jq:∀l m:List e2,bf (l++m)=bf l++bf m
 |[],m=>rfl|x::r,m=>by simp only[List.cons_append,bf,Jq r m]
theorem oq:∀l:List e2,(bf l).map AV.a1=bf l
 |[]=>rfl|t::r=>by simp only[bf,aqw,oq r];rfl
theorem Jr:∀l:List e2,(bf l).all AV.eH=true
 |[]=>rfl|t::r=>by simp only[bf,List.all_cons,Jr r];rfl
theorem ot:∀{l:List e2}{i:Nat},i<l.length->(bf l).drop (i*2)=.str l[i]!.name::.int .i64 l[i]!.level::bf (l.drop (i+1))
 |[],i,h=>by simp at h|t::r,0,_=>by simp[bf]|t::r,i+1,h=>by
  rw[show(i+1)*2=i*2+2 by omega];simp only[bf,List.drop_succ_cons];rw[ot el];simp
theorem Js:∀{l:List e2}{i:Nat}{v:Int},i<l.length->setCells (bf l) (i*2+1) [.int .i64 v]=bf (l.set i ⟨l[i]!.name,v⟩)
 |[],i,v,h=>by simp at h|t::r,0,v,_=>by simp[bf,setCells]|t::r,i+1,v,h=>by
  have:=Js (l:=r) (i:=i) (v:=v) el;rw[show(i+1)*2+1=i*2+1+2 by omega];simp only[setCells,bf,List.set_cons_succ]at this ⊢;rw[this];simp
variable {e:Nat}{l:List e2}{i:Nat}
theorem alU(h:i<l.length):wV 1 (i*2) (some (.buf e (bf l)))=some [.str l[i]!.name]:=by
 rw[CR,eb,if_pos am,ot h];rfl
theorem alV(h:i<l.length):wV 1 (i*2+1) (some (.buf e (bf l)))=some [.int .i64 l[i]!.level]:=by
 rw[CR,eb,if_pos am,<-aqx,ot h];rfl
variable {H:List ay}{id:Nat}
theorem alX{E:Env}{v:Int}(h:i<l.length) :
  tP E H id (i*2+1) [.int .i64 v] (some (.buf e (bf l)))=some ⟨E,H.set id (.buf e (bf (l.set i ⟨l[i]!.name,v⟩)))⟩:=by
 rw[FU,eb,if_pos (by simp only[List.length_cons,List.length_nil];omega),Js h]
theorem Jt:∀l:List e2,chunk 2 l.length (bf l)=l.map e2.enc
 |[]=>rfl|t::r=>by
  simp[chunk,bf,e2.enc,Jt]
theorem apH{l:Env}{t n:Nat}{m:List e2}(h:m.length=n/\n<=M):pU l H t e 2 id n 2 (some (.buf e (bf m)))=some ⟨N ((t,.v (.list (some e) 2 (m.map e2.enc)))::l),H.set id .dead⟩:=by
 obtain⟨h,a⟩:=h;have b:(bf m).take (n*2)=bf m:=aqI (by rw[eb,h];omega);simp only[pU,b,oq,Jr,eb,h,true_and,Nat.le_refl,a,if_true];rw[<-h,Jt];simp only[b7,List.foldr_cons]
section
variable {s:au}{K:au->Prop}{t:aN K}
variable {d:Nat}{a:ak}
theorem apI :o7 s d e 2 K t (.aS 2) (some (2,[.agg [.str a,.int .i64 0]]))=di { s with heap:=s.heap++[ay.buf e (bf [⟨a,0⟩]),.dead] } d (.bI s.heap.length 0 1 2) K ⟨⟩:=by
 have b:M=1099511627776:=rfl;rfl
theorem apJ{n:Nat}(h:s.heap[id]?=some (.buf e (bf l))/\n=l.length/\n+1<=M) :
  o7 s d e 2 K t (.bI id 0 n 2) (some (2,[.agg [.str a,.int .i64 0]]))=di { s with heap:=s.heap.set id .dead++[ay.buf e (bf (l++[⟨a,0⟩])),.dead] } d (.bI s.heap.length 0 (n+1) 2) K ⟨⟩:=by
 obtain⟨b,rfl,c⟩:=h;simp only[o7,b];rw[if_pos ⟨trivial,trivial,trivial,by rw[eb];omega,am⟩,aqI (by rw[eb];exact Nat.le_refl _),oq,Jq];rfl
end
def bm(ns:List ak)(lev:List (ak×Int)):List e2:=ns.map λs=>⟨s,mw lev s⟩
theorem eT(ns:List ak)(lev:List (ak×Int)):(bm ns lev).length=ns.length:=List.length_map _
variable {ns:List ak}{lev:List (ak×Int)}{k:Nat}
theorem Ju(h:k<ns.length):(bm ns lev)[k]! = ⟨ns[k]!,mw lev ns[k]!⟩:=by
 simp[bm,h]
theorem apK(a:ns.Nodup)(h:k<ns.length)(v:Int):(bm ns lev).set k ⟨ns[k]!,v⟩=bm ns (fV lev ns[k]! v):=by
 have e:ns[k]! = ns[k]:=by simp[h]
 apply List.ext_getElem?;intro i;rw[List.getElem?_set,eT];unfold bm;simp only[List.getElem?_map];by_cases al:k=i
 ·subst al;simp[h,ajT]
 ·rw[if_neg al];cases b:ns[i]? with
  |none=>rfl|some s =>
   simp only[Option.map_some,ajT,e];obtain⟨d,c⟩:=List.getElem?_eq_some_iff.1 b;have:s≠ns[k]:=by
    rw[<-c];exact λhe=>al ((List.getElem_inj a).1 he).symm
   rw[if_neg this]
theorem apL{s:ak}(h:s∈ns):p1 ((bm ns lev).map λx=>(x.name,x.level)) s=mw lev s:=by
 induction ns with
 |nil=>cases h|cons t r ih =>
  simp only[bm,aqw,p1,getM]at ih ⊢;by_cases e:s=t
  ·rw[if_pos e,e];rfl
  ·rw[if_neg e];exact ih ((List.mem_cons.1 h).resolve_left e)
theorem Jv{ls:List e2}(h:i<ls.length)(s:ak):p1 ((ls.drop i).map λx=>(x.name,x.level)) s=if s=ls[i]!.name then ls[i]!.level else p1 ((ls.drop (i+1)).map λx=>(x.name,x.level)) s:=by
 rw[fi h];simp only[aqw,p1,getM];split<;>rfl
def eU(ns:List ak):Option (List (ak×Int))->AV
 |some lev=>.bg [enc (bm ns lev),.bool true]|none=>.bg [.list none 2 [],.bool false]
def apM(e:Nat)(v:AV)(H:List ay)(l:List e2):Prop:=(v=.aS 2/\l=[])\/∃id,v=.bI id 0 l.length 2/\H[id]?=some (.buf e (bf l))
def p8(c:Nat->Bool):Nat->Nat->Nat->Nat
 |0,bc,_=>bc|f+1,bc,al=>if bc<al then(if c ((bc+al) / 2)then p8 c f ((bc+al) / 2+1) al else p8 c f bc ((bc+al) / 2))else bc
variable {bc al:Nat}
theorem Hk(c:Nat->Bool)(h:al<=bc):∀f,p8 c f bc al=bc
 |0=>rfl|f+1=>by rw[p8,if_neg am]
theorem LG(c:Nat->Bool):∀f bc al,al-bc<=f->p8 c (f+1) bc al=p8 c f bc al
 |0,bc,al,h=>by rw[Hk c am,Hk c am]|f+1,bc,al,h=>by
  by_cases a:bc<al
  ·rw[p8,if_pos a];conv=>rhs;rw[p8,if_pos a]
   split
   ·exact LG c f _ _ am
   ·exact LG c f _ _ am
  ·rw[Hk c am,Hk c am]
variable {f:Nat}
theorem aL4(c:Nat->Bool)(h:al-bc<=f)(a:bc<al):p8 c f bc al=if c ((bc+al) / 2)then p8 c f ((bc+al) / 2+1) al else p8 c f bc ((bc+al) / 2):=by
 cases f with
 |zero=>omega|succ f =>
  conv=>lhs;rw[p8,if_pos a]
  rw[LG c f _ _ am,LG c f _ _ am]
def oH(s:List aY)(v:ak):Nat:=p8 (λk=>decide (du s[k]!.var v<0)) s.length 0 s.length
def sS(s:List aY)(v:ak):Bool:=decide (oH s v<s.length)&&(du s[oH s v]!.var v==0)
def zf(t:I):Bool:=decide (t.args.length=0)&&eg t.name
mutual
def oI:I->I->List aY->Option (List aY×Bool)
 |.mk n l,g,s=>if zf (.mk n l)then(if sS s n then some (s,hi s[oH s n]!.term g)else if s.length=0 then some ([⟨n,g⟩],true)else none)
  else if n != g.name||decide (l.length≠g.args.length)then some ([],false)else sT l g.args s
def sT:List I->List I->List aY->Option (List aY×Bool)
 |p::ps,g::gs,s=>match oI p g s with
  |none=>none|some (s',true)=>sT ps gs s'|some (_,false)=>some ([],false)
 |[],_,s=>some (s,true)|_::_,[],s=>some (s,true)
end
mutual
theorem alY:∀{p g:I}{s:List aY}{R:List aY×Bool},oI p g s=some R->s.length<=1->R.1.length<=1
 |.mk n l,g,s,R,h,ax=>by
  rw[oI]at h;split at h
  ·split at h
   ·simp only[Option.some.injEq]at h;subst h;exact ax
   ·split at h
    ·simp only[Option.some.injEq]at h;subst h;simp
    ·cases h
  ·split at h
   ·simp only[Option.some.injEq]at h;subst h;simp
   ·exact alZ h ax
theorem alZ:∀{l m:List I}{s:List aY}{R:List aY×Bool},sT l m s=some R->s.length<=1->R.1.length<=1
 |p::ps,g::gs,s,R,h,ax=>by
  rw[sT]at h;split at h
  ·cases h
  ·rename_i a e;exact alZ h (alY e ax)
  ·simp only[Option.some.injEq]at h;subst h;simp
 |[],_,s,R,h,ax=>by
  rw[sT]at h
  ·simp only[Option.some.injEq]at h;subst h;exact ax
  all_goals simp
 |_::_,[],s,R,h,ax=>by
  rw[sT]at h;simp only[Option.some.injEq]at h;subst h;exact ax
end
def xz(s:List aY)(i:Nat):Bool:=eg s[i]!.var&&cD 4 s[i]!.term true&&!(decide (0<i)&&(Op.bytesLess s[i]!.var s[i-1]!.var||s[i]!.var==s[i-1]!.var))
def q1(s:List aY):Bool:=decide (s.length<=64)&&(List.range s.length).all (xz s)
variable {s:List aY}
theorem aL5(al:i<s.length)(h:xz s i=false):q1 s=false:=by
 have:(List.range s.length).all (xz s)=false:=List.all_eq_false.2 ⟨i,List.mem_range.2 al,by rw[h];simp⟩;rw[q1,this,Bool.and_false]
theorem aL6(a:s.length<=64)(h:∀i,i<s.length->xz s i=true):q1 s=true:=by
 rw[q1,decide_eq_true a,Bool.true_and,List.all_eq_true];exact λi al=>h i (List.mem_range.1 al)
def k3(s:List aY):AV:=if s=[]then .aS 3 else .list none 3 (s.map aY.enc)
theorem aL7:k3 []=.aS 3:=rfl
theorem al0(h:s≠[]):k3 s=.list none 3 (s.map aY.enc):=if_neg h
instance aT.k3(s:List aY):aT (k3 s) s:=by
 unfold AM.k3;split
 ·rename_i h;rw[h];exact aT.Qm
 ·exact inferInstance
def sU(p g:I)(s:List aY):Option (List aY×Bool) :=
 if !(cD 4 g false&&q1 s)then some ([],false)else match oI p g s with
 |none=>none|some (out,ok)=>if ok&&q1 out then some (out,true)else some ([],false)
open Enc (enc)
def amc(s:au)(z:List AV)(K:au->Prop)(v:AV)(_:aN K):Prop:=match v with
 |.bI id off n sz=>cC (if z.length=sz/\0<n then bb s (aqH n z).flatten (.ar id off)else if n=0 then some s else none) K ⟨⟩|.list _ _ []=>K s|.aS _=>K s|_=>False
variable {P:Program}{gl:cQ}{z:List AV}{K:au->Prop}{t:aN K}
theorem aMB{D:bj}{x:aL}{s:au} :b4 P gl D s K t (.s9 e z x)=bV (br gl s.env x) (λv=>amc s z K v ⟨⟩) ⟨⟩:=by
 have h:b4 P gl D s K t (.s9 e z x)=cC (aJ gl s (.s9 e z x)) K ⟨⟩:=_root_.id rfl;rw[h];simp only[aJ];cases br gl s.env x with
 |none=>rfl|some v=>cases v with
  |list o n xs=>cases xs<;>rfl|_=>rfl
variable {n:Nat}
theorem aMC{s:au}{off sz:Nat} :amc s z K (.bI id off n sz) t=cC (if z.length=sz/\0<n then bb s (aqH n z).flatten (.ar id off)else if n=0 then some s else none) K ⟨⟩:=_root_.id rfl
theorem amd:∀(C A B:List AV),B.length=C.length->setCells (A++B) A.length C=A++C
 |[],A,B,h=>by obtain rfl:B=[]:=List.length_eq_zero_iff.1 h;rw[setCells]
 |c::C,A,b::B,h=>by
  have a:(A++b::B).set A.length c=(A++[c])++B:=by rw[List.set_append_right _ _ (Nat.le_refl _),Nat.sub_self];simp
  rw[setCells,a];have:=amd C (A++[c]) B el;rw[List.length_append]at this;rw[show A.length+1=A.length+[c].length from rfl,this];simp
def vt(S:List I)(n:Nat):List AV:=c3 S++(aqH n [AV.str [],AV.aS 2]).flatten
theorem aMD(S:List I):vt S 0=c3 S:=by simp[vt]
variable {l:List I}
theorem aME{E:Env}(hk:k+n=l.length) :
  tP E (gi e H id l) id (k*2) (aqH n [AV.str [],AV.aS 2]).flatten (some (.buf e (c3 l)))=some ⟨E,H.set id (.buf e (vt (l.take k) n))⟩:=by
 have a:c3 l=c3 (l.take k)++c3 (l.drop k):=by rw[<-QP,List.take_append_drop]
 have b:(c3 (l.take k)).length=k*2:=by rw[ll,List.length_take];omega
 rw[FU,if_pos (by rw[QO,ll];omega)];rw[a,<-b,amd _ _ _ (by rw[QO,ll,List.length_drop];omega)];simp[gi,vt]
theorem aMF{l:Env}{t:Nat}{m:List I}(h:m.length=n/\n<=M):pU l H t e 2 id n 2 (some (.buf e (vt m k)))=some ⟨N ((t,.v (.list (some e) 2 (m.map I.enc)))::l),H.set id .dead⟩:=by
 obtain⟨h,a⟩:=h;have b:(vt m k).take (n*2)=c3 m:=by rw[vt,List.take_append_of_le_length (by rw[ll];omega)];simp_all[aqI,ll]
 have c:n*2<=(vt m k).length:=by rw[vt,List.length_append,ll];omega
 simp only[pU,b,C2,Gc,c,true_and,a,if_true];rw[<-h,Gd];simp only[b7,List.foldr_cons]
attribute [go_sem 3000] aMF aME
attribute [go_sem] aMC
attribute [go_sem ↓ 4000] aMB
variable {α:Type}
theorem ame[Inhabited α](d:α->Bool):∀(L:List α)(i:Nat),(j7 d L i = -1/\∀t∈L,d t=false)\/∃k,k<L.length/\j7 d L i=((i+k:Nat):Int)/\(∀t∈L.take k,d t=false)/\d L[k]! = true
 |[],i=>.inl ⟨rfl,λ_ h=>d7⟩|t::r,i=>by
  rw[j7];by_cases h:d t=true
  ·exact .inr ⟨0,be,by rw[if_pos h];rfl,λ_ h=>f8,el⟩
  ·have c:d t=false:=by simpa using h
   rw[if_neg h];rcases ame d r (i+1)with⟨g,b⟩|⟨k,g,b,j,m⟩
   ·exact .inl ⟨g,λu a=>(List.mem_cons.1 a).elim (λe=>e▸c) (b u)⟩
   ·refine .inr ⟨k+1,dl,by rw[b];congr 1;omega,λu a=>?_,by simpa using m⟩;rw[List.take_succ_cons]at a;exact(List.mem_cons.1 a).elim (λe=>e▸c) (j u)
theorem amf{d:α->Bool}{L:List α}(h:∀t∈L,d t=false):L.filter (λt=>!d t)=L:=List.filter_eq_self.2 λt a=>by rw[h t a];rfl
def q2(d:I->Bool)(L:List I)(j k:Nat)(l:List I):Prop:=j<=L.length/\k<j/\l.length=L.length/\l.take k=(L.take j).filter (λt=>!d t)/\l.drop j=L.drop j
variable {d:I->Bool}{L:List I}
theorem q2.start(a:k<L.length)(b:∀t∈L.take k,d t=false)(c:d L[k]! = true):q2 d L (k+1) k L :=
 ⟨a,Nat.lt_succ_self _,rfl,by rw[bL a,List.filter_append,amf b];simp only[List.filter,c,Bool.not_true,List.append_nil],rfl⟩
variable {j:Nat}
theorem q2.same(h:q2 d L j k l)(a:j<L.length):l[j]! = L[j]!:=by
 have b:=congrArg (·[0]!) h.2.2.2.2;have c:j<l.length:=h.2.2.1▸a;simp only[fi a,fi c]at b;simpa using b
theorem q2.drop(h:q2 d L j k l)(a:j<L.length)(hd:d L[j]! = true):q2 d L (j+1) k l:=by
 obtain⟨m,o,b,c,g⟩:=h;refine⟨a,am,b,?_,?_⟩
 ·rw[bL a,List.filter_append,c];simp only[List.filter,hd,Bool.not_true,List.append_nil]
 ·rw[<-aqx,<-aqx,g]
theorem q2.RQ(h:q2 d L j k l)(a:j<L.length)(hd:d L[j]! = false):q2 d L (j+1) (k+1) (l.set k l[j]!):=by
 have ax:=h.same a;obtain⟨p,q,b,c,g⟩:=h;refine⟨a,am,by rw[List.length_set];exact b,?_,?_⟩
 ·have hk:k<(l.set k l[j]!).length:=by rw[List.length_set];omega
  rw[bL a,List.filter_append,<-c,bL hk,ax];have m:(l.set k L[j]!).take k=l.take k:=by rw[List.take_set_of_le (Nat.le_refl _)]
  have o:(l.set k L[j]!)[k]! = L[j]!:=by rw[getElem!_pos _ _ (by rw[List.length_set];omega),List.getElem_set_self]
  rw[m,o];simp only[List.filter,hd,Bool.not_false]
 ·rw[List.drop_set_of_lt am,<-aqx,<-aqx,g]
theorem q2.len(h:q2 d L j k l)(b:j=L.length):l.take k=L.filter (λt=>!d t)/\(L.filter (λt=>!d t)).length=k/\k<L.length:=by
 obtain⟨c,g,m,a,o⟩:=h;rw[b,List.take_length]at a;exact⟨a,by rw[<-a,List.length_take];omega,am⟩
def l6(c:UInt8):Bool:=decide (c.toNat=32)||decide (c.toNat=10)
def Bg(c:UInt8):Bool:=decide (c.toNat=45)||(decide (48<=c.toNat)&&decide (c.toNat<=57))||(decide (97<=c.toNat)&&decide (c.toNat<=122))||(decide (65<=c.toNat)&&decide (c.toNat<=90))
def q3:ak->ak|[]=>[]|c::r=>if l6 c then q3 r else c::r
def sX:ak->ak|[]=>[]|c::r=>if Bg c then c::sX r else[]
def sY:ak->ak|[]=>[]|c::r=>if Bg c then sY r else c::r
def lq(r:ak):ak×ak:=(sX (q3 r),sY (q3 r))
def hJ(x:Nat)(r:ak):Bool×ak:=match q3 r with
 |[]=>(false,[])|c::q=>if c.toNat=x then(true,q)else(false,c::q)
mutual
def zg:Nat->ak->ak->Option (I×ak)
 |0,_,_=>none|f+1,n,r=>if(hJ 40 r).1 then(match DR f [] (hJ 40 r).2 with
   |none=>none|some (l,q)=>some (.mk n l,(hJ 41 q).2))else some (.mk n [],(hJ 40 r).2)
def DR:Nat->List I->ak->Option (List I×ak)
 |0,_,_=>none|f+1,l,r=>if r=[]then some (l,r)else match zg f (lq r).1 (lq r).2 with
  |none=>none|some (t,q)=>if(hJ 44 q).1 then DR f (l++[t]) (hJ 44 q).2 else some (l++[t],(hJ 44 q).2)
end
def xA(r:ak):ak×ak:=lq (lq (hJ 46 r).2).2
def xB(w:ak×ak):ak×ak:=if w.1=[110,111,116]then lq w.2 else w
def DS:Nat->List Lit->ak->Option (List Lit×ak)
 |0,_,_=>none|f+1,l,r=>if r=[]then some (l,r)else if(hJ 46 r).1 then some (l,(hJ 46 r).2)else
  if(xB (xA r)).1=[]then some (l,(xB (xA r)).2)else match zg f (xB (xA r)).1 (xB (xA r)).2 with
  |none=>none|some (t,q)=>DS f (l++[⟨decide ((xA r).1=[110,111,116]),t⟩]) q
def Hm(f:Nat)(n r:ak):Option (aU×ak):=match zg f n r with
 |none=>none|some (t,q)=>match DS f [] q with
  |none=>none|some (b,hT)=>some (⟨t,b⟩,hT)
def Bh:Nat->List aU->ak->Option (List aU)
 |0,_,_=>none|f+1,l,r=>if(lq r).1=[]then some l else match Hm f (lq r).1 (lq r).2 with
  |none=>none|some (x,q)=>Bh f (l++[x]) q
def Bi:Nat->List I->ak->Option (List I)
 |0,_,_=>none|f+1,l,r=>if r=[]then some l else match zg f (lq r).1 (lq r).2 with
  |none=>none|some (t,q)=>if(hJ 44 q).1 then Bi f (l++[t]) (hJ 44 q).2 else some (l++[t])
def ep(s r:ak):ay:=.cells [.str s,.int .i64 ((s.length-r.length:Nat):Int)]
theorem Hn:∀r:ak,q3 r <:+ r
 |[]=>aqB|c::r=>by
  rw[q3];split
  ·exact(Hn r).trans (List.suffix_cons c r)
  ·exact aqB
theorem amg:∀r:ak,sY r <:+ r
 |[]=>aqB|c::r=>by
  rw[sY];split
  ·exact(amg r).trans (List.suffix_cons c r)
  ·exact aqB
theorem xC(r:ak):(lq r).2 <:+ r:=(amg _).trans (Hn r)
theorem um(x:Nat)(r:ak):(hJ x r).2 <:+ r:=by
 have h:=Hn r;rw[hJ];split
 ·exact List.nil_suffix
 ·rename_i c q e;rw[e]at h;split
  ·exact(List.suffix_cons c q).trans h
  ·exact h
variable {r:ak}
theorem Ui{s:ak}{c:UInt8}(h:c::r <:+ s):r.length+1<=s.length/\s[s.length-(r.length+1)]?=some c/\r <:+ s/\s.length-(r.length+1)+1=s.length-r.length:=by
 obtain⟨p,rfl⟩:=h;refine⟨be,?_,⟨p++[c],be⟩,by simp only[List.length_append,List.length_cons];omega⟩;rw[show(p++c::r).length-(r.length+1)=p.length by simp];simp
mutual
theorem zh:∀{f:Nat}{n r:ak}{t:I}{q:ak},zg f n r=some (t,q)->q <:+ r
 |0,_,_,_,_,h=>by cases h|f+1,n,r,t,q,h=>by
  rw[zg]at h;split at h
  ·split at h
   ·cases h
   ·rename_i l a e;simp only[Option.some.injEq,Prod.mk.injEq]at h;rw[<-h.2];exact((um 41 a).trans (amh e)).trans (um 40 r)
  ·simp only[Option.some.injEq,Prod.mk.injEq]at h;rw[<-h.2];exact um 40 r
theorem amh:∀{f:Nat}{l:List I}{r:ak}{m:List I}{q:ak},DR f l r=some (m,q)->q <:+ r
 |0,_,_,_,_,h=>by cases h|f+1,l,r,m,q,h=>by
  rw[DR]at h;split at h
  ·simp_all
  ·split at h
   ·cases h
   ·rename_i t a e;have b:=(zh e).trans (xC r);split at h
    ·exact((amh h).trans (um 44 a)).trans b
    ·simp only[Option.some.injEq,Prod.mk.injEq]at h;rw[<-h.2];exact(um 44 a).trans b
end
theorem ami(w:ak×ak):(xB w).2 <:+ w.2:=by
 unfold xB;split
 ·exact xC _
 ·exact aqB
theorem aMP(r:ak):(xA r).2 <:+ r:=((xC _).trans (xC _)).trans (um 46 r)
theorem amj:∀{f:Nat}{l:List Lit}{r:ak}{m:List Lit}{q:ak},DS f l r=some (m,q)->q <:+ r
 |0,_,_,_,_,h=>by cases h|f+1,l,r,m,q,h=>by
  rw[DS]at h;have a:=(ami (xA r)).trans (aMP r);split at h
  ·simp_all
  ·split at h
   ·simp only[Option.some.injEq,Prod.mk.injEq]at h;rw[<-h.2];exact um 46 r
   ·split at h
    ·simp only[Option.some.injEq,Prod.mk.injEq]at h;rw[<-h.2];exact a
    ·split at h
     ·cases h
     ·rename_i t b e;exact((amj h).trans (zh e)).trans a
theorem aMQ{n:ak}{x:aU}{q:ak}(h:Hm f n r=some (x,q)):q <:+ r:=by
 unfold Hm at h;split at h
 ·cases h
 ·rename_i t g a;split at h
  ·cases h
  ·rename_i b m c;simp only[Option.some.injEq,Prod.mk.injEq]at h;rw[<-h.2];exact(amj c).trans (zh a)
def vu(e:Nat)(l:List I):AV:=if l=[]then .aS 2 else .list (some e) 2 (l.map I.enc)
def uo(e:Nat)(l:List AV):AV:=if l=[]then .aS 3 else .list (some e) 3 l
theorem aMR(e:Nat)(l:List I):bx (vu e l) (.list none 2 (l.map I.enc)):=by
 unfold vu;split
 ·simp_all[bx.aS]
 ·exact bx.disown _ _ _
theorem aMS(e:Nat)(l:List AV):bx (uo e l) (.list none 3 l):=by
 unfold uo;split
 ·simp_all[bx.aS]
 ·exact bx.disown _ _ _
theorem bB.kX{xs:List AV}{K:AV->List ay->Prop}(h:bB P gl f xs H λa H'=>∃r,bx a r/\cY r/\K r H'):bB P gl f xs H K :=
 ⟨h.1,λg w vs b c m=>(h.2 g w vs b c m).mono λ_ _ ⟨v,a,H',g',o,⟨r,ba,p,q⟩,u,x,y,_⟩=>⟨v,r,H',g',o,q,u,x,ba _ _ y,p.gG⟩⟩
theorem Ho{s:ak}(h:r <:+ s):r.length<=s.length:=h.length_le
open Go Go.ChangeShapes Go.WideShapes
def LL(P:Program)(L:List TypeId):Bool:=L.all λt=>match P.underlying t with
 |some (.slice e)=>decide (0<P.cellsOf e)&&L.contains e|some (.pointer e)=>L.contains e|some (.struct dC)=>dC.toList.all λf=>L.contains f.type|some (.array _ e)=>L.contains e|some (.map _ e)=>L.contains e|_=>true
section
variable {H:Type}{L:List TypeId}{enc:TypeId×Value->H}{P:Program}{w w':World}{base:Nat}
theorem aNi(F:LL P L=true){r r':TypeId->List Value->Option (DataW H×List MemPlace)}(v:∀t cs x,t∈L->r t cs=some x->r' t cs=some x){t:TypeId}(cf:t∈L){cs:List Value}{x:DataW H×List MemPlace}
  (h:DataW.trodStep enc P w base (λ_=>true) true r t cs=some x):DataW.trodStep enc P w base (λb=>decide (b<w.heap.size)) true r' t cs=some x:=by
 have ej:=List.all_eq_true.1 F t cf;unfold DataW.trodStep at h ⊢;split at h<;>first|exact h|skip
 case h_6 ax =>
  simp only[ax,aqE,decide_eq_true_eq]at ej;simp only[aqt,aqv]at h ⊢;obtain⟨y,⟨m,o,G⟩,rfl⟩:=h;exact⟨y,⟨m,o,v _ _ _ ej G⟩,rfl⟩
 case h_8 e a len cap ax =>
  simp only[ax,Bool.and_eq_true,aqE,decide_eq_true_eq]at ej;simp only at h ⊢;split at h
  ·rename_i o;rw[if_pos o];simp only[if_true,aqt,aqv]at h ⊢;obtain⟨elems,he,p,A,rfl⟩:=h;have one:∀(i:Nat)y,(w.cells? base (a.add (i*P.cellsOf e)) (P.cellsOf e)).bind (r e)=some y->(w.cells? base (a.add (i*P.cellsOf e)) (P.cellsOf e)).bind (r' e)=some y:=λi y c=>by
    simp only[aqv]at c ⊢;obtain⟨m,C,D⟩:=c;exact⟨m,C,v _ _ _ ej.2 D⟩
   refine⟨elems,mapM_carry he λi y _ _ c=>one i y c,p,?_,rfl⟩;by_cases ae:a.block<w.heap.size
   ·rw[if_pos n8];exact mapM_carry A λi y _ _ c=>one _ y c
   ·rw[if_neg n8];have B:cap-len=0:=by
     rcases Nat.eq_zero_or_pos (cap-len)with B|B
     ·exact B
     ·exfalso;have J:p.length=cap-len:=by simpa using mapM_some_length A
      have C:=mapM_some_get A 0 0 (by simp[B]);rw[List.getElem?_eq_getElem am,aqv]at C;obtain⟨m,D,_⟩:=C;have:=World.cells?_block D ej.1;refine ae ?_;unfold Addr.add at this;split at this
      ·exact this
      ·exact this
    rw[B]at A;simpa using A
  ·cases h
 case h_9 ax =>
  simp only[ax,List.all_eq_true,aqE,decide_eq_true_eq]at ej;split at h
  ·rename_i o;rw[if_pos o];simp only[aqt]at h ⊢;obtain⟨xs,ah,rfl⟩:=h;exact⟨xs,mapM_carry ah (λf y E _ c=>v _ _ _ (ej f E) c),rfl⟩
  ·cases h
 case h_10 ax =>
  simp only[ax,aqE,decide_eq_true_eq]at ej;split at h
  ·rename_i o;rw[if_pos o];simp only[aqt]at h ⊢;obtain⟨xs,ah,rfl⟩:=h;exact⟨xs,mapM_carry ah (λf y _ _ c=>v _ _ _ ej c),rfl⟩
  ·cases h
 case h_14 ax =>
  simp only[ax,aqE,decide_eq_true_eq]at ej;split at h
  ·split at h
   ·rename_i o;rw[if_pos o];simp only[aqv]at h ⊢;obtain⟨g,he,hd⟩:=h;refine⟨g,mapM_carry he (λx y _ _ c=>?_),hd⟩;simp only[aqv]at c ⊢;obtain⟨key,hk,u⟩:=c;refine⟨key,hk,?_⟩;split at u
    ·rename_i E;rw[if_pos E];simp only[aqt]at u ⊢;obtain⟨q,u,rfl⟩:=u;exact⟨q,v _ _ _ ej u,rfl⟩
    ·cases u
   ·cases h
  ·cases h
theorem amt(a:LL P L=true):∀(n:Nat)(t:TypeId)(cs:List Value)(x:DataW H×List MemPlace),t∈L ->
  DataW.trod enc P w base (λ_=>true) true n t cs=some x->DataW.trod enc P w base (λb=>decide (b<w.heap.size)) true n t cs=some x
 |0,_,_,_,_,h=>by simp[DataW.trod]at h|n+1,t,cs,x,cf,h=>by
  rw[DataW.trod_step]at h ⊢;exact aNi a (amt a n) cf h
theorem amu(c:LL P L=true):∀{bE:List TypeId}{vs:List Value}{hz:List (DataW H)}{ps:List MemPlace},(∀t∈bE,t∈L)->DataW.TrodAll enc P w base (λ_=>true) true bE vs hz ps->DataW.TrodAll enc P w base (λb=>decide (b<w.heap.size)) true bE vs hz ps
 |[],_,_,_,_,h=>by
  obtain⟨rfl,rfl,rfl⟩:=trodAll_nil h;exact rfl
 |t::_,_,_,_,cf,h=>by
  obtain⟨v,g,d,m,a,b,rfl,rfl,rfl,⟨n,o⟩,p⟩:=trodAll_cons h;exact⟨a,b,⟨n,amt c _ _ _ _ (cf t be) o⟩,amu c (λt q=>cf t (by simp[q])) p,rfl⟩
theorem aNj(a:∀b,b<w.heap.size->w'.heap[b]?=w.heap[b]?){p:MemPlace}(ar:p.block<w.heap.size):w.sameAt w' p:=by
 cases p with
 |cell b off=>simp only[World.sameAt,World.cell?];rw[a b ar]|map b=>exact a b ar
theorem aNk{f:Func}{s:ChangeSpec}{c y g A:Bool}{W o:World}{args:Array Value}{v:Value}{hz C:List (DataW H)}{u:List MemPlace}
  (R:LL P L=true)(cf:∀t∈f.params.toList,t∈L)(F:s.vars=[])
  (G:DataW.Whole enc P f.params.toList s.vars c W args.toList hz C u)
  (J:∀(b:Nat)(B:Nat->Bool)(hd:Bool),DataW.TrodAll enc P o b B hd f.resultTypes.toList (v.resultList f.resultTypes.size) (s.fn H (hz++C)).results [])
  (S:(s.fn H (hz++C)).args=hz)(T:(s.fn H (hz++C)).vars=[])
  (O:∀b,b<W.heap.size->o.heap[b]?=W.heap[b]?)(V:o.os=W.os)(X:o.output=W.output)
  (Y:∀(j:Nat)(t:TypeId)(r:Value),f.resultTypes[j]?=some t->(v.resultList f.resultTypes.size)[j]?=some r->Value.okWide P o .any 0 t r) :
  s.post enc P f c y g A W args v o:=by
 have Z:=G.lt;have Uo:=G;obtain⟨p,q,cE,Q,rfl,Gx,pB⟩:=G;rw[F]at Q;obtain⟨rfl,rfl⟩:C=[]/\q=[]:=trodVars_none Q;have D:∀x∈p,x.block<W.heap.size:=λx ah=>Z x (by simp[ah])
 -- places are carried along with what is read
 have m:∀(B:Nat->Bool),DataW.TrodAll enc P W 0 B true f.params.toList args.toList hz p->DataW.TrodAll enc P o 0 B true f.params.toList args.toList hz p:=by
  intro B;generalize f.params.toList=bE;generalize args.toList=vs;revert bE vs;have key:∀(bE:List TypeId)(vs:List Value)(hz:List (DataW H))(E:List MemPlace),(∀x∈E,x.block<W.heap.size)->DataW.TrodAll enc P W 0 B true bE vs hz E->DataW.TrodAll enc P o 0 B true bE vs hz E:=by
   intro bE;induction bE with
   |nil=>intro vs hz E _ h;obtain⟨rfl,rfl,rfl⟩:=trodAll_nil h;exact rfl
   |cons t bE ih =>
    intro vs hz E ar h;obtain⟨v,amv,d,amw,a,b,rfl,rfl,rfl,⟨n,ab⟩,an⟩:=trodAll_cons h;exact⟨a,b,⟨n,DataW.trod_carry n _ _ _ ab λx ah=>aNj O (ar x (by simp only[List.mem_append];exact .inl ah))⟩,ih _ _ _ (λx ah=>ar x (by simp only[List.mem_append];exact .inr ah)) an,rfl⟩
  intro bE vs h;exact key bE vs hz p D h
 have Du:DataW.TrodAll enc P o 0 (λb=>decide (b<W.heap.size)) true f.params.toList args.toList hz p:=m _ (amu R cf cE);have lR:DataW.TrodAll enc P o 0 (λ_=>true) true f.params.toList args.toList hz p:=m _ cE;refine⟨hz,[],p++[],[],p,[],Uo,J _ _ _,by rw[S];exact Du,by rw[F,T];exact rfl,⟨V,X,λi al=>?_⟩,λ_=>⟨Y,_,[],([]++p)++[],⟨[]++p,[],trodAll_append lR (J _ _ _),by rw[F];rfl,rfl,?_,?_⟩,?_⟩⟩
 ·grind
 ·intro b off ar;have:=Gx b off (by simpa using ar);have ae:b<W.heap.size:=D (.cell b off) (by simpa using ar);simp only[World.frozen?]at this ⊢;rw[O b ae];exact this
 ·intro aG;simpa using pB aG
 ·intro x ah _;simpa using ah
end
structure nn where
 s:List UInt8
 n:Int
 a:Bool
 b:Bool
def nn.DY{H:Type}(k:nn):DataW H:=.agg [.lit (.string k.s),.lit (.int .i64 k.n),.lit (.bool k.a),.lit (.bool k.b)]
def nn.cells(k:nn):List AV:=[.str k.s,.int .i64 k.n,.bool k.a,.bool k.b]
def nn.nw(k:nn):List Value:=[.string ⟨k.s.toArray⟩,.int .i64 k.n,.bool k.a,.bool k.b]
structure LM(P:Program)(A R S rv B:TypeId)(n:Nat):Prop where
 cE:P.underlying A=some (.array n R)
 de:∃f0 f1 f2 f3:Field,P.underlying R=some (.struct #[f0,f1,f2,f3])/\f0.type=S/\f0.offset=0/\f1.type=rv/\f1.offset=1/\f2.type=B/\f2.offset=2/\f3.type=B/\f3.offset=3
 ds:P.underlying S=some .string
 gq:P.underlying rv=some (.int .i64)
 fN:P.underlying B=some .bool
 aNl:P.cellsOf A=n*4
 Hb:P.cellsOf R=4
 OM:P.cellsOf S=1
 aNm:P.cellsOf rv=1
 Lr:P.cellsOf B=1
section
variable {H:Type}{enc:TypeId×Value->H}{P:Program}{w:World}{base:Nat}{spare:Nat->Bool}{held:Bool}{A R S rv B:TypeId}{n:Nat}
variable {fuel:Nat}{cs:List Value}{ps:List MemPlace}
theorem aNn(T:LM P A R S rv B n){k:nn}(h:DataW.trod enc P w base spare held fuel R cs=some (k.DY,ps)):cs=k.nw:=by
 obtain⟨O,Q,V,W,de,X,Y,Z,l2,aR,jx,fe,mg⟩:=T.de;obtain⟨xs,m,hm,ah,D,nS,g⟩:=DataW.trod_struct de h;rw[T.Hb]at D
 match cs,D with
 |[j3,c1,c2,gv],_ =>
  have c:=congrArg Prod.fst ah;simp only[nn.DY,DataW.agg.injEq]at c
  match xs,c with
  |[aM,x1,x2,x3],c =>
   simp only[aqw,List.map_nil,List.cons.injEq,and_true]at c;obtain⟨o,p,q,u⟩:=c;have v:=g 0 O rfl;have x:=g 1 Q rfl;have y:=g 2 V rfl;have C:=g 3 W rfl;rw[X,Y,T.OM]at v;rw[Z,l2,T.aNm]at x;rw[aR,jx,T.Lr]at y;rw[fe,mg,T.Lr]at C;simp only[List.drop_zero,List.take_succ_cons,List.take_zero,List.drop_succ_cons,List.getElem?_cons_zero,List.getElem?_cons_succ]at v x y C;obtain⟨s,E,z0,_⟩:=DataW.trod_string T.ds v;obtain⟨i,F,gB,_⟩:=DataW.trod_int T.gq x;obtain⟨a,G,z2⟩:=DataW.trod_bool T.fN y;obtain⟨b,J,z3⟩:=DataW.trod_bool T.fN C;subst z0 gB z2 z3;simp only[DataW.lit.injEq,Lit.string.injEq,Lit.int.injEq,Lit.bool.injEq,true_and]at o p q u;simp only[List.cons.injEq,and_true]at E F G J;subst E F G J;obtain⟨ks,o8,pJ,rq⟩:=k;simp only at o p q u;subst o p q u;rfl
variable {ks:List nn}
theorem aNo(T:LM P A R S rv B n)(h:DataW.trod enc P w base spare held fuel A cs=some (.agg (ks.map nn.DY),ps)) :
  cs.length=n*4/\ks.length=n/\∀(i:Nat)k,ks[i]?=some k->(cs.drop (i*4)).take 4=k.nw:=by
 obtain⟨xs,m,hm,ah,o,x,p⟩:=DataW.trod_array T.cE h;have b:=congrArg Prod.fst ah;simp only[DataW.agg.injEq]at b;have q:ks.length=n:=by have:=congrArg List.length b;simp at this;omega
 refine⟨by rw[o,T.aNl],q,λi k hk=>?_⟩;have al:i<n:=by grind
 have c:=p i al;rw[T.Hb]at c;have g:(xs.map (·.1))[i]?=some k.DY:=by rw[<-b];simp[hk]
 rw[List.getElem?_map,aqt]at g;obtain⟨y,u,a⟩:=g;rw[u]at c;obtain⟨d,v⟩:=y;simp only at a;subst a;exact aNn T c
variable {γ:fA}
theorem amz{b:Nat}:∀(ks:List nn)(off:Nat),(∀k∈ks,k.s.length<=M)->(∀(i:Nat)k,ks[i]?=some k->∀j v,k.nw[j]?=some v->γ b (off+i*4+j)=some v)->fB γ b off (ks.map nn.cells).flatten
 |[],_,_,_=>.nil _ _|k::ks,off,c,h=>by
  have a:=h 0 k rfl;have g:=amz ks (off+4) (λk hk=>c k (by simp[hk])) λi m hk j v o=>by
   have:=h (i+1) m (by simpa using hk) j v o;rwa[show off+4+i*4+j=off+(i+1)*4+j by omega]
  simp only[aqw,List.flatten_cons,nn.cells,List.cons_append,List.nil_append];refine .cons _ _ _ _ _ (by simpa using a 0 _ rfl) rfl (.str _ (c k be)) (.cons _ _ _ _ _ (by simpa using a 1 _ rfl) rfl (.int _ _) (.cons _ _ _ _ _ (by simpa using a 2 _ rfl) rfl (.bool _) (.cons _ _ _ _ _ (by simpa using a 3 _ rfl) rfl (.bool _) g)))
theorem aNp(T:LM P A R S rv B n){name:String}{g:Nat}{W:World}(c:P.globalNamed name=some g)(u:(P.globals[g]?).map (·.type)=some A)(a:∀k∈ks,k.s.length<=M)
  (h:laidMet P [(name,.agg (ks.map nn.DY))] W)(x:∀b o v,W.cell? ⟨b,o,none⟩=some v->γ b o=some v):fB γ g 0 (ks.map nn.cells).flatten:=by
 obtain⟨ps,⟨g',J,cs,fuel,p,q,y,C,D,hd,_,_⟩,_⟩:=h;obtain rfl:=Option.some.inj (c.symm.trans y);obtain rfl:=Option.some.inj (u.symm.trans C);obtain⟨O,Q,E⟩:=aNo T hd;refine amz ks 0 a λi k hk j v m=>x _ _ _ ?_;rw[World.var?_cell c D,<-Array.getElem?_toList];have F:=E i k hk;have G:j<4:=by grind
 rw[<-F,List.getElem?_take,if_pos G,List.getElem?_drop]at m;simpa using m
end
end AM
