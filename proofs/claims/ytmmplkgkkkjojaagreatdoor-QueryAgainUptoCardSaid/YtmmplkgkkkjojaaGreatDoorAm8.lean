/- An abstract machine, and what of the given program it does, part 9. Conditions: none. -/
import Derived.Test.YtmmplkgkkkjojaaGreatDoorAm7
import Derived.Sort.AssemblyPlain
import Derived.Sort.LotD5
import Derived.Sort.Walk13a
import Derived.Shelf.Sort.Plain
import Derived.Shelf.Slices.In.SortNone
import Derived.Sort.OwnSorted
import Derived.Sort.Walk0
set_option linter.unusedSimpArgs false
set_option linter.unusedVariables false
namespace AM
open List renaming map_cons -> aKB,mem_map -> aKC,mem_append -> aKE,length_append -> aKF,mem_singleton -> aKG,length_cons -> aKH,all_eq_true -> aKI,any_eq_true -> aKJ,mem_cons_of_mem -> aKL,mem_cons_self -> aKM,mem_filter -> aKN,cons_append -> aKP,length_map -> aKQ,mem_flatMap -> aKR,append_assoc -> aKS,nodup_append -> aKU,mem_cons -> aKW,contains_iff_mem -> aKX,map_append -> aKY,take_of_length_le -> aKZ,nodup_cons -> aK2,foldl_cons -> aK4,getElem?_eq_getElem -> aK5,length_filter_le -> aK6,eq_nil_iff_forall_not_mem -> aK8,nodup_iff_pairwise_ne -> aK9
open Bool renaming and_eq_true -> aKD,and_self -> aKO,or_eq_true -> aKV,eq_iff_iff -> aK3
open Nat renaming le_refl -> aKK,mul_le_mul_right -> aK7
open Option renaming map_some -> aKT
open Go
open Enc (enc)
mutual
def c4:I->ak|.mk n l=>match l with|[]=>n|t::r=>n++40::(c4 t++(jM r++[41]))
def jM:List I->ak|[]=>[]|t::r=>44::(c4 t++jM r)
end
def kH:List I->ak|[]=>[]|t::r=>c4 t++jM r
theorem ahq(t:I):c4 t=if t.args.length=0 then t.name else t.name++40::(kH t.args++[41]):=by
 obtain⟨n,l⟩:=t;cases l with
 |nil=>rfl|cons t r=>simp[c4,I.args,I.name,kH]
theorem ahr:∀(l:List I)(t:I),jM (l++[t])=jM l++44::c4 t
 |[],t=>by simp[jM]|u::l,t=>by simp[jM,ahr l t]
theorem aEH(t:I):kH [t]=c4 t:=by simp[kH,jM]
theorem aEI{l:List I}(h:l≠[])(t:I):kH (l++[t])=kH l++44::c4 t:=by
 cases l with
 |nil=>exact absurd rfl h|cons u l=>simp[kH,ahr]
section
variable {α:Type}
def getM:List (ak×α)->ak->Option α
 |[],_=>none|(k,v)::r,s=>if s=k then some v else getM r s
def yK:List (ak×α)->ak->α->List (ak×α)
 |[],_,_=>[]|(k,u)::r,s,v=>if s=k then(k,v)::r else(k,u)::yK r s v
def w4:List (ak×α)->ak->α->List (ak×α)
 |[],s,v=>[(s,v)]|(k,u)::r,s,v=>if Op.bytesLess s k then(s,v)::(k,u)::r else(k,u)::w4 r s v
def fV(l:List (ak×α))(s:ak)(v:α):List (ak×α):=match getM l s with|some _=>yK l s v|none=>w4 l s v
def mm:List (ak×α)->ak->List (ak×α)
 |[],_=>[]|(k,u)::r,s=>if s=k then r else(k,u)::mm r s
def lo(n:Nat)(l:List (ak×α))(s:ak):Nat:=match getM l s with|some _=>n|none=>n+1
def cI(f:α->AV)(l:List (ak×α)):List (AV×AV):=l.map λp=>(AV.str p.1,f p.2)
theorem tW(s t:ak):dS (.str s) (.str t)=decide (s=t):=by
 simp only[dS];by_cases h:s=t<;>simp[h]
theorem C3(f:α->AV):∀(l:List (ak×α))(s:ak),hl (cI f l) (.str s)=(getM l s).map f
 |[],_=>rfl|(k,v)::r,s=>by
  have ih:=C3 f r s;simp only[cI]at ih;simp only[cI,aKB,hl,tW,getM,decide_eq_true_eq];by_cases h:s=k
  ·rw[if_pos h,if_pos h];rfl
  ·rw[if_neg h,if_neg h,ih]
theorem Ko(f:α->AV):∀(l:List (ak×α))(s:ak)(v:α),jv (cI f l) (.str s) (f v)=cI f (yK l s v)
 |[],_,_=>rfl|(k,u)::r,s,v=>by
  have ih:=Ko f r s v;simp only[cI]at ih;simp only[cI,aKB,jv,tW,yK,decide_eq_true_eq];by_cases h:s=k
  ·rw[if_pos h,if_pos h];rfl
  simp_all
theorem ahs(f:α->AV):∀(l:List (ak×α))(s:ak)(v:α),uv (cI f l) (.str s) (f v)=cI f (w4 l s v)
 |[],_,_=>rfl|(k,u)::r,s,v=>by
  have ih:=ahs f r s v;simp only[cI]at ih;have hk:LO (.str s) (.str k)=Op.bytesLess s k:=rfl;simp only[cI,aKB,uv,w4,hk];by_cases h:Op.bytesLess s k=true
  ·simp only[h,if_true,aKB]
  ·grind
theorem aht(f:α->AV)(n:Nat)(l:List (ak×α))(s:ak)(v:α):pr n (cI f l) (.str s) (f v)=.map (lo n l s) (cI f (fV l s v)):=by
 rw[pr,C3,lo,fV];cases getM l s with
 |some u=>simp only[aKT,Ko]|none=>simp only[Option.map_none,ahs]
theorem ahu(f:α->AV):∀(l:List (ak×α))(s:ak),vB (cI f l) (.str s)=cI f (mm l s)
 |[],_=>rfl|(k,u)::r,s=>by
  have ih:=ahu f r s;simp only[cI]at ih;simp only[cI,aKB,vB,tW,mm,decide_eq_true_eq];by_cases h:s=k
  ·rw[if_pos h,if_pos h]
  simp_all
theorem C4(f:α->AV)(l:List (ak×α)):lr [1] (cI f l)=true:=by cases l<;>rfl
theorem AD(f:α->AV)(l:List (ak×α)):(cI f l).length=l.length:=by simp[cI]
def cd(l:List (ak×α)):List ak:=l.map Prod.fst
variable {l:List (ak×α)}{s:ak}
theorem getM_none :getM l s=none↔s∉cd l:=by
 induction l with
 |nil=>simp[getM,cd]|cons p r ih =>
  obtain⟨k,v⟩:=p;simp only[getM,cd,aKB,aKW,not_or]at ih ⊢;by_cases h:s=k
  ·simp[h]
  ·rw[if_neg h,ih];simp[h]
variable {v:α}
theorem sE(a:(cd l).Nodup) :getM l s=some v↔(s,v)∈l:=by
 induction l with
 |nil=>simp[getM]|cons p r ih =>
  obtain⟨k,u⟩:=p;simp only[cd,aKB,aK2]at a;simp only[getM,aKW,Prod.mk.injEq];by_cases h:s=k
  ·grind
  ·rw[if_neg h,ih a.2];simp[h]
theorem aEJ(h:(getM l s).isSome=true)(t:ak):getM (yK l s v) t=if t=s then some v else getM l t:=by
 induction l with
 |nil=>simp[getM]at h|cons p r ih =>
  obtain⟨k,u⟩:=p;simp only[getM]at h;simp only[yK];by_cases ax:s=k
  ·subst ax;rw[if_pos rfl];simp only[getM];by_cases a:t=s<;>simp[a]
  ·rw[if_neg ax]at h ⊢;simp only[getM,ih h];by_cases a:t=k
   ·subst a;simp[Ne.symm ax]
   ·simp[a]
theorem aEK(h:getM l s=none)(t:ak):getM (w4 l s v) t=if t=s then some v else getM l t:=by
 induction l with
 |nil=>simp[getM,w4]|cons p r ih =>
  obtain⟨k,u⟩:=p;simp only[getM]at h;by_cases ax:s=k
  ·simp[ax]at h
  ·rw[if_neg ax]at h;simp only[w4];by_cases ae:Op.bytesLess s k=true
   ·rw[if_pos ae];simp only[getM]
   ·rw[if_neg ae];simp only[getM,ih h];by_cases a:t=k
    ·subst a;simp[Ne.symm ax]
    ·simp[a]
theorem w5(l:List (ak×α))(s:ak)(v:α)(t:ak):getM (fV l s v) t=if t=s then some v else getM l t:=by
 rw[fV];split
 ·simp_all[aEJ]
 simp_all[aEK]
theorem ahv(l:List (ak×α))(s:ak)(v:α):cd (yK l s v)=cd l:=by
 induction l with
 |nil=>rfl|cons p r ih =>
  obtain⟨k,u⟩:=p;simp only[cd]at ih;simp only[yK];split<;>simp[cd,ih]
theorem ahw(l:List (ak×α))(s:ak)(v:α):(cd (w4 l s v)).Perm (s::cd l):=by
 induction l with
 |nil=>exact .refl _|cons p r ih =>
  obtain⟨k,u⟩:=p;simp only[w4];split
  ·exact .refl _
  ·exact(List.Perm.cons k ih).trans (.swap _ _ _)
theorem AE(h:(cd l).Nodup)(s:ak)(v:α):(cd (fV l s v)).Nodup:=by
 rw[fV];split
 ·rw[ahv];exact h
 ·rename_i a;rw[(ahw l s v).nodup_iff,aK2];exact⟨getM_none.1 a,h⟩
theorem ahx(l:List (ak×α))(s:ak)(v:α)(t:ak):t∈cd (fV l s v)↔t=s\/t∈cd l:=by
 have a:=getM_none (l:=fV l s v) (s:=t);have b:=getM_none (l:=l) (s:=t);rw[w5]at a;by_cases h:t=s
 ·subst h;simp at a;simp[a]
 ·grind
theorem QW:∀{l:List (ak×α)}{s:ak},(mm l s).Sublist l
 |[],_=>.slnil|(k,u)::r,s=>by
  simp only[mm];split
  ·simp
  ·exact .cons_cons _ QW
theorem QX(h:(cd l).Nodup)(s:ak):(cd (mm l s)).Nodup:=List.Nodup.sublist (QW.map _) h
theorem QY(h:(cd l).Nodup)(s t:ak):getM (mm l s) t=if t=s then none else getM l t:=by
 induction l with
 |nil=>simp[getM,mm]|cons p r ih =>
  obtain⟨k,u⟩:=p;simp only[cd,aKB,aK2]at h;simp only[mm];by_cases ax:s=k
  ·subst ax;rw[if_pos rfl];by_cases a:t=s
   ·subst a;rw[if_pos rfl];exact getM_none.2 h.1
   ·rw[if_neg a];simp only[getM,if_neg a]
  ·rw[if_neg ax];simp only[getM,ih h.2];by_cases a:t=k
   ·subst a;simp[Ne.symm ax]
   ·simp[a]
theorem ahy(l:List (ak×α))(s:ak)(v:α):(fV l s v).length=if(getM l s).isSome then l.length else l.length+1:=by
 have b:(cd (fV l s v)).length=(fV l s v).length:=by simp[cd]
 rw[<-b,fV];split
 ·rename_i u a;rw[ahv,a];simp[cd]
 ·rename_i a;rw[(ahw l s v).length_eq,a];simp[cd]
theorem ahz(f:α->AV)(l:List (ak×α))(ks:List ak):(cI f l).filter (λe=>!(ks.map AV.str).any (dS e.1))=cI f (l.filter λp=>!ks.contains p.1):=by
 rw[cI,List.filter_map,cI];congr 1
 apply List.filter_congr;intro p _;simp only[Function.comp];congr 1
 rw[aK3,aKJ,aKX];constructor
 ·rintro⟨x,ah,he⟩;obtain⟨k,hk,rfl⟩:=aKC.1 ah;rw[tW,decide_eq_true_eq]at he;rw[he];exact hk
 ·intro h;exact⟨.str p.1,aKC.2 ⟨_,h,rfl⟩,by rw[tW];simp⟩
end
section
variable {P:Program}{gl:cQ}{D:bj}{s:au}{K:au->Prop}{t:aN K}
variable {d:Nat}
theorem aEL :b4 P gl D s K t (.vz d)=di { s with heap:=s.heap++[ay.map 0 []] } d (.map s.heap.length) K ⟨⟩:=_root_.id rfl
def w6(zero:AV):Bool->Option AV->AV
 |true,some v=>.bg [v.a1,.bool true]|false,some v=>v.a1|true,none=>.bg [zero,.bool false]|false,none=>zero
theorem aEM(z v:AV):w6 z true (some v)=.bg [v.a1,.bool true]:=_root_.id rfl
theorem aEN(z v:AV):w6 z false (some v)=v.a1:=_root_.id rfl
theorem aEO(z:AV):w6 z true none=.bg [z,.bool false]:=_root_.id rfl
theorem aEP(z:AV):w6 z false none=z:=_root_.id rfl
def Gh(ks:List Nat)(zero:AV)(ok:Bool)(kk:AV):Option ay->Option AV
 |some (.map _ es)=>if(fE ks kk&&lr ks es)=true then some (w6 zero ok (hl es kk))else none|_=>none
def QZ(ks:List Nat)(zero:AV)(ok:Bool)(H:List ay)(kk:AV):AV->Option AV
 |.map id=>Gh ks zero ok kk H[id]?|.ha=>if fE ks kk=true then some (w6 zero ok none)else none|_=>none
variable {ks:List Nat}{zero:AV}{ok:Bool}{H:List ay}{kk:AV}{id:Nat}
theorem ahA :QZ ks zero ok H kk (.map id)=Gh ks zero ok kk H[id]?:=_root_.id rfl
variable {m k:aL}
theorem aEQ :b4 P gl D s K t (.look ks d m k zero ok)=bV (br gl s.env m) (λa=>bV (br gl s.env k) (λb=>bV (QZ ks zero ok s.heap b a) (λv=>di s d v K ⟨⟩) ⟨⟩) ⟨⟩) ⟨⟩:=by
 rw[X0];simp only[aJ];cases br gl s.env m with
 |none=>rfl|some a=>cases br gl s.env k with
  |none=>cases a<;>rfl|some b =>
   cases a with
   |map id =>
    simp only[eI,ahA];cases s.heap[id]? with
    |none=>rfl|some o=>cases o with
     |map n es =>
      simp only[Gh];by_cases h:(fE ks b&&lr ks es)=true
      ·rw[if_pos h,if_pos h,eI];cases hl es b<;>cases ok<;>rfl
      ·rw[if_neg h,if_neg h];rfl
     |_=>rfl
   |ha =>
    simp only[eI,QZ];by_cases h:fE ks b=true
    ·rw[if_pos h,if_pos h,eI];cases ok<;>rfl
    ·rw[if_neg h,if_neg h];rfl
   |_=>rfl
variable {α:Type}{f:α->AV}{q:ak}{n:Nat}{l:List (ak×α)}
theorem aER :Gh [1] zero ok (.str q) (some (.map n (cI f l)))=some (w6 zero ok ((getM l q).map f)):=by
 simp only[Gh,C4,C3,fE,beq_self_eq_true,aKO,if_true]
def va(ks:List Nat)(kk v:AV)(id:Nat)(H:List ay):Option ay->Option (List ay)
 |some (.map n es)=>if(fE ks kk&&lr ks es)=true then some (H.set id (pr n es kk v.a1))else none|_=>none
def ahB(ks:List Nat)(H:List ay)(kk v:AV):AV->Option (List ay)
 |.map id=>va ks kk v id H H[id]?|_=>none
theorem ahC{v:AV} :ahB ks H kk v (.map id)=va ks kk v id H H[id]?:=_root_.id rfl
theorem aES{v:aL}:b4 P gl D s K t (.qc ks m k v)=bV (br gl s.env m) (λa=>bV (br gl s.env k) (λb=>bV (br gl s.env v) (λc=>bV (ahB ks s.heap b c a) (λH=>K { s with heap:=H }) ⟨⟩) ⟨⟩) ⟨⟩) ⟨⟩:=by
 rw[X2];simp only[aJ];cases br gl s.env m with
 |none=>rfl|some a=>cases br gl s.env k with
  |none=>cases a<;>rfl|some b=>cases br gl s.env v with
   |none=>cases a<;>rfl|some c =>
    cases a with
    |map id =>
     simp only[eI,ahC];cases s.heap[id]? with
     |none=>rfl|some o=>cases o with
      |map n es =>
       simp only[va];by_cases h:(fE ks b&&lr ks es)=true
       ·rw[if_pos h,if_pos h];rfl
       ·rw[if_neg h,if_neg h];rfl
      |_=>rfl
    |_=>rfl
theorem Q0{v:α}{x:AV}(ah:x.a1=f v):va [1] (.str q) x id H (some (.map n (cI f l)))=some (H.set id (.map (lo n l q) (cI f (fV l q v)))):=by
 simp only[va,C4,fE,beq_self_eq_true,aKO,if_true,ah,aht]
theorem aET{v:I}{l:List (ak×I)}:va [1] (.str q) v.enc id H (some (.map n (cI I.enc l)))=some (H.set id (.map (lo n l q) (cI I.enc (fV l q v)))):=Q0 v.a1
theorem aEU{v:Bool}{l:List (ak×Bool)}:va [1] (.str q) (.bool v) id H (some (.map n (cI AV.bool l)))=some (H.set id (.map (lo n l q) (cI AV.bool (fV l q v)))):=Q0 rfl
theorem aEV{v:Int}{l:List (ak×Int)}:va [1] (.str q) (.int .i64 v) id H (some (.map n (cI (AV.int .i64) l)))=some (H.set id (.map (lo n l q) (cI (AV.int .i64) (fV l q v)))):=Q0 rfl
def lO(e:Nat)(l:List I):AV:=.list (some e) 2 (l.map I.enc)
theorem aEW(e:Nat)(l:List I):(lO e l).a1=.list none 2 (l.map I.enc):=_root_.id rfl
def AF(ks:List Nat)(s:au)(d:Nat)(zero kk:AV)(id:Nat)(K:au->Prop)(_:aN K):Option ay->Prop
 |some (.map n es)=>if(fE ks kk&&lr ks es)=true then
   (match hl es kk with
    |some (.list (some e) sz xs)=>di { s with heap:=s.heap.set id (.map n (jv es kk (.list none sz xs))) } d (.list (some e) sz xs) K ⟨⟩|some _=>False|none=>di s d zero K ⟨⟩)else False
 |_=>False
def ahD(ks:List Nat)(s:au)(d:Nat)(zero kk:AV)(K:au->Prop)(_:aN K):AV->Prop
 |.map id=>AF ks s d zero kk id K ⟨⟩ s.heap[id]?|_=>False
theorem ahE :ahD ks s d zero kk K t (.map id)=AF ks s d zero kk id K ⟨⟩ s.heap[id]?:=_root_.id rfl
theorem aEX :b4 P gl D s K t (.iN ks d m k zero)=bV (br gl s.env m) (λa=>bV (br gl s.env k) (λb=>ahD ks s d zero b K ⟨⟩ a) ⟨⟩) ⟨⟩:=by
 rw[X1];simp only[aJ];cases br gl s.env m with
 |none=>rfl|some a=>cases br gl s.env k with
  |none=>cases a<;>rfl|some b =>
   cases a with
   |map id =>
    simp only[eI,ahE];cases s.heap[id]? with
    |none=>rfl|some o=>cases o with
     |map n es =>
      simp only[AF];by_cases h:(fE ks b&&lr ks es)=true
      ·rw[if_pos h,if_pos h];cases hl es b with
       |none=>rfl|some v=>cases v with
        |list o sz xs=>cases o<;>rfl|_=>rfl
      ·rw[if_neg h,if_neg h];rfl
     |_=>rfl
   |_=>rfl
variable {e:Nat}{l:List (ak×List I)}{L:List I}
theorem aEY(h:getM l q=some L) :
  AF [1] s d zero (.str q) id K t (some (.map n (cI (lO e) l)))=di { s with heap:=s.heap.set id (.map n (jv (cI (lO e) l) (.str q) (.list none 2 (L.map I.enc)))) } d (.list (some e) 2 (L.map I.enc)) K ⟨⟩:=by
 simp only[AF,C4,fE,beq_self_eq_true,aKO,if_true,C3,h,aKT,lO]
theorem aEZ{d e n:Nat}{zero:AV}{id:Nat}{q:ak}{l:List (ak×List I)}(h:getM l q=none) :
  AF [1] s d zero (.str q) id K t (some (.map n (cI (lO e) l)))=di s d zero K ⟨⟩:=by
 simp only[AF,C4,fE,beq_self_eq_true,aKO,if_true,C3,h,Option.map_none]
def w7(ks:List Nat)(s:au)(v:Nat)(kk:AV)(id:Nat)(e sz:Nat)(xs:List AV)(K:au->Prop)(_:aN K):Option ay->Prop
 |some (.map n es)=>if(fE ks kk&&lr ks es)=true then di { s with heap:=s.heap.set id (pr n es kk (.list (some e) sz xs)) } v (.list none sz xs) K ⟨⟩else False|_=>False
def ahF(ks:List Nat)(s:au)(v:Nat)(kk:AV)(K:au->Prop)(_:aN K):AV->dc->Prop
 |.map id,.v (.list (some e) sz xs)=>w7 ks s v kk id e sz xs K ⟨⟩ s.heap[id]?|_,_=>False
variable {v sz:Nat}{xs:List AV}
theorem ahG :ahF ks s v kk K t (.map id) (.v (.list (some e) sz xs))=w7 ks s v kk id e sz xs K ⟨⟩ s.heap[id]?:=_root_.id rfl
theorem aE0 :b4 P gl D s K t (.q5 ks m k v)=bV (br gl s.env m) (λa=>bV (br gl s.env k) (λb=>bV (Env.get s.env v) (λc=>ahF ks s v b K ⟨⟩ a c) ⟨⟩) ⟨⟩) ⟨⟩:=by
 rw[X3];simp only[aJ];cases br gl s.env m with
 |none=>rfl|some a=>cases br gl s.env k with
  |none=>cases a<;>rfl|some b=>cases Env.get s.env v with
   |none=>cases a<;>rfl|some c =>
    cases a with
    |map id =>
     cases c with
     |v x=>cases x with
      |list o sz xs=>cases o with
       |none=>rfl|some e =>
        simp only[eI,ahG];cases s.heap[id]? with
        |none=>rfl|some o=>cases o with
         |map n es =>
          simp only[w7];by_cases h:(fE ks b&&lr ks es)=true
          ·rw[if_pos h,if_pos h];rfl
          ·rw[if_neg h,if_neg h];rfl
         |_=>rfl
      |_=>rfl
     |_=>rfl
    |_=>rfl
theorem aE1(f:α->AV)(l:List (ak×α))(q:ak)(x:AV):lr [1] (jv (cI f l) (.str q) x)=true:=by
 cases l with
 |nil=>rfl|cons p r =>
  simp only[cI,aKB,jv];split<;>rfl
theorem ahH(f:α->AV)(q:ak)(x:AV):∀(l:List (ak×α)),(getM l q).isSome=true->hl (jv (cI f l) (.str q) x) (.str q)=some x
 |[],h=>by simp[getM]at h|(k,v)::r,h=>by
  have ih:=ahH f q x r;simp only[cI]at ih;simp only[getM]at h;simp only[cI,aKB,jv,tW,decide_eq_true_eq];by_cases hk:q=k
  ·subst hk;simp[hl,tW]
  ·rw[if_neg hk]at h ⊢;simp only[hl,tW,decide_eq_true_eq,if_neg hk];exact ih h
theorem ahI(f:α->AV)(q:ak)(x y:AV):∀(l:List (ak×α)),jv (jv (cI f l) (.str q) x) (.str q) y=jv (cI f l) (.str q) y
 |[]=>rfl|(k,v)::r=>by
  have ih:=ahI f q x y r;simp only[cI]at ih;simp only[cI,aKB,jv,tW,decide_eq_true_eq];by_cases hk:q=k
  ·subst hk;simp[jv,tW]
  ·rw[if_neg hk,if_neg hk];simp only[jv,tW,decide_eq_true_eq,if_neg hk,ih]
theorem aE2{x:AV}(h:(getM l q).isSome=true)(ah:xs=L.map I.enc) :
  w7 [1] s v (.str q) id e 2 xs K t (some (.map n (jv (cI (lO e) l) (.str q) x)))=di { s with heap:=s.heap.set id (.map n (cI (lO e) (fV l q L))) } v (.list none 2 (L.map I.enc)) K ⟨⟩:=by
 subst ah;simp only[w7,aE1,fE,beq_self_eq_true,aKO,if_true,pr,ahH (lO e) q x l h,ahI];have:=Ko (lO e) l q L;simp only[lO]at this;rw[show(AV.list (some e) 2 (L.map I.enc))=lO e L from rfl,Ko];rw[fV];cases a:getM l q with
 |none=>rw[a]at h;cases h|some u=>rfl
theorem aE3(h:getM l q=none)(ah:xs=L.map I.enc) :
  w7 [1] s v (.str q) id e 2 xs K t (some (.map n (cI (lO e) l)))=di { s with heap:=s.heap.set id (.map (n+1) (cI (lO e) (fV l q L))) } v (.list none 2 (L.map I.enc)) K ⟨⟩:=by
 subst ah;simp only[w7,C4,fE,beq_self_eq_true,aKO,if_true];rw[show(AV.list (some e) 2 (L.map I.enc))=lO e L from rfl,aht,lo,h]
def Gi(ks:List Nat)(kk:AV)(id:Nat)(H:List ay):Option ay->Option (List ay)
 |some (.map n es)=>if(fE ks kk&&lr ks es)=true then some (H.set id (.map n (vB es kk)))else none|_=>none
def ahJ(ks:List Nat)(H:List ay)(kk:AV):AV->Option (List ay)
 |.map id=>Gi ks kk id H H[id]?|_=>none
theorem ahK :ahJ ks H kk (.map id)=Gi ks kk id H H[id]?:=_root_.id rfl
theorem aE4{d:Option Nat} :b4 P gl D s K t (.qd ks d m k)=bV (br gl s.env m) (λa=>bV (br gl s.env k) (λb=>bV (ahJ ks s.heap b a) (λH=>cC (({ s with heap:=H }:au).fO d (.bg [])) K ⟨⟩) ⟨⟩) ⟨⟩) ⟨⟩:=by
 rw[X4];simp only[aJ];cases br gl s.env m with
 |none=>rfl|some a=>cases br gl s.env k with
  |none=>cases a<;>rfl|some b =>
   cases a with
   |map id =>
    simp only[eI,ahK];cases s.heap[id]? with
    |none=>rfl|some o=>cases o with
     |map n es =>
      simp only[Gi];by_cases h:(fE ks b&&lr ks es)=true
      ·rw[if_pos h,if_pos h];rfl
      ·rw[if_neg h,if_neg h];rfl
     |_=>rfl
   |_=>rfl
variable {l:List (ak×α)}
theorem aE5 :Gi [1] (.str q) id H (some (.map n (cI f l)))=some (H.set id (.map n (cI f (mm l q)))):=by
 simp only[Gi,C4,fE,beq_self_eq_true,aKO,if_true,ahu]
def Q1(H:List ay)(id:Nat):Option ay->Option (List ay)
 |some (.map n _)=>some (H++[ay.iter (some id) n []])|_=>none
def ahL(H:List ay):AV->Option (List ay)
 |.map id=>Q1 H id H[id]?|.ha=>some (H++[ay.iter none 0 []])|_=>none
theorem ahM :ahL H (.map id)=Q1 H id H[id]?:=_root_.id rfl
theorem aE6{es:List (AV×AV)}:Q1 H id (some (.map n es))=some (H++[ay.iter (some id) n []]):=_root_.id rfl
theorem aE7 :b4 P gl D s K t (.r6 d m)=bV (br gl s.env m) (λa=>bV (ahL s.heap a) (λH=>di { s with heap:=H } d (.ptr s.heap.length 0) K ⟨⟩) ⟨⟩) ⟨⟩:=by
 rw[X5];simp only[aJ];cases br gl s.env m with
 |none=>rfl|some a=>cases a with
  |map id =>
   simp only[eI,ahM];cases s.heap[id]? with
   |none=>rfl|some o=>cases o<;>rfl
  |_=>rfl
def Gj(s:au)(d:Nat)(K:au->Prop)(_:aN K)(v:AV):Prop:=bV (r9 s.heap v) (λ(id,m,since,seen,es)=>match es with
   |[]=>cC (s.put d (.bg [.bool false])) K ⟨⟩|e0::es=>∀e∈e0::es,cC (({ s with heap:=s.heap.set id (.iter m since (seen++[e.1])) }:au).put d (.bg [.bool true,e.1,e.2.a1])) K ⟨⟩) ⟨⟩
variable {it:aL}
theorem aE8 :b4 P gl D s K t (.nU d it)=bV (br gl s.env it) (λv=>Gj s d K ⟨⟩ v) ⟨⟩:=by
 rw[Xw];cases br gl s.env it<;>rfl
variable {rZ mid:Nat}{ks:List ak}
theorem Kp(f:α->AV)(a:s.heap[rZ]?=some (.iter (some mid) n (ks.map AV.str)))(b:s.heap[mid]?=some (.map n (cI f l)))
  (c:l.filter (λp=>!ks.contains p.1)=[])(hk:di s d (.bg [.bool false]) K ⟨⟩):Gj s d K t (.ptr rZ 0):=by
 have g:r9 s.heap (.ptr rZ 0)=some (rZ,some mid,n,ks.map AV.str,[]):=by
  simp only[r9,a,b,if_true];rw[ahz,c];rfl
 unfold Gj;rw[g];exact hk
theorem Q2(f:α->AV)(c:s.heap[rZ]?=some (.iter (some mid) n (ks.map AV.str)))(g:s.heap[mid]?=some (.map n (cI f l)))
  (h:l.filter (λp=>!ks.contains p.1)≠[])(hk:∀p∈l,p.1∉ks->di { s with heap:=s.heap.set rZ (.iter (some mid) n ((ks++[p.1]).map AV.str)) } d (.bg [.bool true,.str p.1,(f p.2).a1]) K ⟨⟩):Gj s d K t (.ptr rZ 0):=by
 obtain⟨a,r,b⟩:=List.exists_cons_of_ne_nil h;have i:r9 s.heap (.ptr rZ 0)=some (rZ,some mid,n,ks.map AV.str,cI f (a::r)):=by
  simp only[r9,c,g,if_true];rw[ahz,b]
 unfold Gj;rw[i];intro e he;obtain⟨p,ar,rfl⟩:=aKC.1 (show e∈(a::r).map (λp=>(AV.str p.1,f p.2)) from he);rw[<-b,aKN]at ar;have:=hk p ar.1 (by simpa using ar.2);rw[aKY]at this;exact this
def Gk(since:Nat)(seen:List AV):Option ay->Option AV
 |some (.map n es)=>(match seen.getLast? with
  |some k=>if n=since then(hl es k).map λv=>.bg [k,v.a1]else none|none=>none)
 |_=>none
def Kq(H:List ay):Option ay->Option AV
 |some (.iter (some mid) since seen)=>Gk since seen H[mid]?|_=>none
theorem aE9{since:Nat}{seen:List AV}:Kq H (some (.iter (some mid) since seen))=Gk since seen H[mid]?:=_root_.id rfl
def ahN(H:List ay):AV->Option AV
 |.ptr id 0=>Kq H H[id]?|_=>none
theorem ahO :ahN H (.ptr id 0)=Kq H H[id]?:=_root_.id rfl
theorem aFa :b4 P gl D s K t (.oK d it)=bV (br gl s.env it) (λa=>bV (ahN s.heap a) (λv=>di s d v K ⟨⟩) ⟨⟩) ⟨⟩:=by
 rw[X6];simp only[aJ];cases br gl s.env it with
 |none=>rfl|some a=>cases a with
  |ptr id o=>cases o with
   |zero =>
    simp only[eI,ahO];cases s.heap[id]? with
    |none=>rfl|some bM=>cases bM with
     |iter m since seen=>cases m with
      |none=>rfl|some mid =>
       simp only[Kq];cases s.heap[mid]? with
       |none=>rfl|some bM=>cases bM with
        |map n es =>
         simp only[Gk];cases seen.getLast? with
         |none=>rfl|some k =>
          simp only;by_cases h:n=since
          ·rw[if_pos h,if_pos h];cases hl es k<;>rfl
          ·rw[if_neg h,if_neg h];rfl
        |_=>rfl
     |_=>rfl
   |succ o=>rfl
  |_=>rfl
theorem aFb{k:ak}{v:α}(h:getM l k=some v) :
  Gk n ((ks++[k]).map AV.str) (some (.map n (cI f l)))=some (.bg [.str k,(f v).a1]):=by
 simp only[Gk,aKY,aKB,List.map_nil,List.getLast?_append,List.getLast?_singleton,Option.some_or,if_true,C3,h,aKT]
def Q3(l:Env)(H:List ay):Option dc->au
 |some (.v (.ptr id 0))=>⟨N l,H.set id .dead⟩|some (.v (.map id))=>⟨N l,H.set id .dead⟩|_=>⟨N l,H⟩
theorem aFc{l:Env} :Q3 l H (some (.v (.ptr id 0)))=⟨N l,H.set id .dead⟩:=_root_.id rfl
theorem aFd{l:Env}{u:Nat}:BV ⟨N l,H⟩ u=Q3 l H (Env.get l u):=by
 unfold BV Q3;simp only[qx];cases Env.get l u with
 |none=>rfl|some e=>cases e with
  |v x=>cases x with
   |ptr i o=>cases o<;>rfl|_=>rfl
  |_=>rfl
def Kr(s:au)(d e sz:Nat)(p:l0)(K:au->Prop)(_:aN K):List AV->Prop
 |[.list (some e) sz xs]=>cC (bb s [.list none sz xs] p) (λs=>di s d (.list (some e) sz xs) K ⟨⟩) ⟨⟩|[.aS _]=>di s d (.list (some e) sz []) K ⟨⟩|_=>False
variable {cB z:Nat}{p:l0}
theorem aFe :Kr s d e sz p K t [.list (some cB) z xs]=cC (bb s [.list none z xs] p) (λs=>di s d (.list (some cB) z xs) K ⟨⟩) ⟨⟩:=_root_.id rfl
theorem aFf :Kr s d e sz p K t [.aS z]=di s d (.list (some e) sz []) K ⟨⟩:=_root_.id rfl
theorem aFg{x:aL}:b4 P gl D s K t (.je d x e sz)=bV (eQ gl s.env x) (λp=>bV (bd s 1 p) (λcs=>Kr s d e sz p K ⟨⟩ cs) ⟨⟩) ⟨⟩:=by
 rw[XO];simp only[aJ];cases eQ gl s.env x with
 |none=>rfl|some p =>
  simp only[Option.bind_some,eI];cases bd s 1 p with
  |none=>rfl|some cs =>
   simp only[Option.bind_some,eI]
   match cs with
   |[]=>rfl|a::b::r=>cases a with
    |list o z xs=>cases o<;>rfl|_=>rfl
   |[v]=>cases v with
    |list o z xs=>cases o with
     |none=>rfl|some e =>
      simp only[Kr];cases bb s [.list none z xs] p<;>rfl
    |_=>rfl
def Q4(s:au)(v:Nat)(p:l0)(K:au->Prop)(_:aN K):dc->Prop
 |.v (.list (some e) sz xs)=>di s v (.list none sz xs) (λs=>cC (bb s [.list (some e) sz xs] p) K ⟨⟩) ⟨⟩|_=>False
theorem aFh :Q4 s v p K t (.v (.list (some e) sz xs))=di s v (.list none sz xs) (λs=>cC (bb s [.list (some e) sz xs] p) K ⟨⟩) ⟨⟩:=_root_.id rfl
theorem aFi{x:aL} :b4 P gl D s K t (.ir x v)=bV (eQ gl s.env x) (λp=>bV (Env.get s.env v) (λe=>Q4 s v p K ⟨⟩ e) ⟨⟩) ⟨⟩:=by
 rw[XQ];simp only[aJ,lJ];cases eQ gl s.env x with
 |none=>rfl|some p =>
  simp only[eI];cases Env.get s.env v with
  |none=>rfl|some e=>cases e with
   |v y=>cases y with
    |list o z xs=>cases o with
     |none=>rfl|some e =>
      simp only[eI,Q4,di,cC];cases s.put v (.list none z xs)<;>rfl
    |_=>rfl
   |_=>rfl
theorem aFj{f:Nat}{hb:List aL}:b4 P gl D s K t (.pq d f hb)=bV (e8 gl s.env hb) (λvs=>if vs.all AV.one=true then di s d (.fn f (vs.map AV.a1)) K ⟨⟩else False) ⟨⟩:=by
 rw[XW];simp only[aJ,lJ];cases e8 gl s.env hb with
 |none=>rfl|some v=>simp only[eI];split<;>rfl
def Q5(s:au)(d e sz:Nat)(K:au->Prop)(_:aN K):AV->Prop
 |.int _ n=>if 0<=n/\n<=(M:Int)then di s d (.list (some e) sz []) K ⟨⟩else False|_=>False
theorem aFk{k:IntKind}{n:Int}:Q5 s d e sz K t (.int k n)=if 0<=n/\n<=(M:Int)then di s d (.list (some e) sz []) K ⟨⟩else False:=_root_.id rfl
theorem aFl{c:aL}:b4 P gl D s K t (.r3 d c e sz)=bV (br gl s.env c) (λv=>Q5 s d e sz K ⟨⟩ v) ⟨⟩:=by
 rw[XX];simp only[aJ];cases br gl s.env c with
 |none=>rfl|some v=>cases v with
  |int k n=>simp only[eI,Q5];split<;>rfl|_=>rfl
theorem aFm{z:List AV}:b4 P gl D s K t (.vy d e z)=di { s with heap:=s.heap++[ay.buf e z,.dead] } d (.ptr s.heap.length 0) K ⟨⟩:=_root_.id rfl
def Ks(e sz:Nat):Option ay->Bool
 |some (.buf cB cs)=>decide (cB=e/\sz<=cs.length)|_=>false
theorem aFn{cs:List AV}:Ks e sz (some (.buf cB cs))=decide (cB=e/\sz<=cs.length):=_root_.id rfl
def Q6(s:au)(d e sz:Nat)(K:au->Prop)(_:aN K):AV->Prop
 |.ptr id 0=>jj (Ks e sz s.heap[id]?) (λb=>match b with|true=>di s d (.ptr id 0) K ⟨⟩|false=>False) ⟨⟩|_=>False
theorem aFo :Q6 s d e sz K t (.ptr id 0)=jj (Ks e sz s.heap[id]?) (λb=>match b with|true=>di s d (.ptr id 0) K ⟨⟩|false=>False) ⟨⟩:=_root_.id rfl
theorem aFp{x:aL}:b4 P gl D s K t (.r4 d x e sz)=bV (br gl s.env x) (λv=>Q6 s d e sz K ⟨⟩ v) ⟨⟩:=by
 rw[XY];simp only[aJ];cases br gl s.env x with
 |none=>rfl|some v=>cases v with
  |ptr id o=>cases o with
   |zero =>
    simp only[eI,Q6];cases s.heap[id]? with
    |none=>rfl|some bM=>cases bM with
     |buf cB cs =>
      simp only[Ks];by_cases h:cB=e/\sz<=cs.length
      ·rw[if_pos h,decide_eq_true h];rfl
      ·rw[if_neg h,decide_eq_false h];rfl
     |_=>rfl
   |succ o=>rfl
  |_=>rfl
theorem aFq{f:Nat}{x:aL}:b4 P gl D s K t (.s8 d f x)=bV (br gl s.env x) (λv=>di s d v.a1 K ⟨⟩) ⟨⟩:=by
 rw[Yc];simp only[aJ,lJ];rfl
def Kt:AV->Option AV
 |.bI id off n _=>if 0<n then some (.ptr id off)else none|.aS _=>some .fl|_=>none
theorem aFr{off:Nat}:Kt (.bI id off n z)=if 0<n then some (.ptr id off)else none:=_root_.id rfl
theorem aFs :Kt (.aS z)=some .fl:=_root_.id rfl
theorem aFt{x:aL}:b4 P gl D s K t (.s6 d x)=bV (br gl s.env x) (λv=>bV (Kt v) (λv=>di s d v K ⟨⟩) ⟨⟩) ⟨⟩:=by
 rw[Ya];simp only[aJ];cases br gl s.env x with
 |none=>rfl|some v=>cases v with
  |bI id off n z=>simp only[eI,Kt];split<;>rfl|_=>rfl
def iL(s:ak):List AV:=s.map λc=>AV.int .u8 c.toNat
theorem AG(s:ak):(iL s).length=s.length:=by simp[iL]
theorem aFu(s:ak):bytesOf (iL s)=some s:=by
 induction s with
 |nil=>rfl|cons c r ih =>
  have h:(0:Int)<=(c.toNat:Int)/\(c.toNat:Int)<256:=⟨am,by have:=c.toNat_lt;omega⟩;simp only[iL,aKB]at ih ⊢;simp only[bytesOf,if_pos h,ih,aKT,Int.toNat_natCast];simp
def C5(s:au)(d e:Nat)(K:au->Prop)(_:aN K):AV->AV->Prop
 |.ptr id 0,.int .i64 n=>(match s.heap[id]? with
   |some (.buf cB cs)=>if cB=e/\0<n/\n<=(cs.length:Int)/\n<=(M:Int)then bV (bytesOf (cs.take n.toNat)) (λb=>di { s with heap:=s.heap.set id .dead } d (.str b) K ⟨⟩) ⟨⟩else False|_=>False)
 |.fl,.int .i64 n=>if n=0 then di s d (.str []) K ⟨⟩else False|_,_=>False
theorem aFv{x n:aL}:b4 P gl D s K t (.s7 d e x n)=bV (br gl s.env x) (λv=>bV (br gl s.env n) (λu=>C5 s d e K ⟨⟩ v u) ⟨⟩) ⟨⟩:=by
 rw[Yb];simp only[aJ];cases br gl s.env x with
 |none=>rfl|some v=>cases br gl s.env n with
  |none =>
   cases v with
   |ptr id o=>cases o<;>rfl|_=>rfl
  |some u=>cases v with
   |ptr id o=>cases o with
    |zero=>cases u with
     |int k m=>cases k with
      |i64 =>
       simp only[eI,C5];cases s.heap[id]? with
       |none=>rfl|some bM=>cases bM with
        |buf cB cs =>
         simp only;by_cases h:cB=e/\0<m/\m<=(cs.length:Int)/\m<=(M:Int)
         ·rw[if_pos h,if_pos h,lJ];rfl
         ·rw[if_neg h,if_neg h];rfl
        |_=>rfl
      |_=>rfl
     |_=>rfl
    |succ o=>rfl
   |fl=>cases u with
    |int k m=>cases k with
     |i64=>simp only[eI,C5];split<;>rfl|_=>rfl
    |_=>rfl
   |_=>rfl
theorem aFw{d e id:Nat}{q:ak}{n:Nat}{s:au}{K:au->Prop}{t:aN K}(h:s.heap[id]?=some (.buf e (iL q))/\n=q.length/\0<n/\n<=M):C5 s d e K t (.ptr id 0) (.int .i64 n)=di { s with heap:=s.heap.set id .dead } d (.str q) K ⟨⟩:=by
 obtain⟨a,rfl,b,c⟩:=h;simp only[C5,a];rw[if_pos ⟨trivial,am,by rw[AG];omega,am⟩,Int.toNat_natCast,aKZ (by rw[AG];exact aKK _),aFu,eI]
theorem aFx :C5 s d e K t .fl (.int .i64 0)=di s d (.str []) K ⟨⟩:=_root_.id rfl
def o7(s:au)(d e sz:Nat)(K:au->Prop)(_:aN K):AV->Option (Nat×List AV)->Prop
 |.aS oM,some (dW,ys)=>if oM=sz/\dW=sz/\ys.length<=M then(match ys with
   |[]=>di s d (.aS sz) K ⟨⟩|_::_=>di { s with heap:=s.heap++[ay.buf e (ys.map λv:AV=>v.cells.map AV.a1).flatten,.dead] } d (.bI s.heap.length 0 ys.length sz) K ⟨⟩)else False
 |.bI id 0 n oM,some (dW,ys)=>(match s.heap[id]? with
   |some (.buf cB cs)=>if cB=e/\oM=sz/\dW=sz/\n*sz<=cs.length/\n+ys.length<=M then
     di { s with heap:=s.heap.set id .dead++[ay.buf e ((cs.take (n*sz)).map AV.a1++(ys.map λv:AV=>v.cells.map AV.a1).flatten),.dead] } d (.bI s.heap.length 0 (n+ys.length) sz) K ⟨⟩else False
   |_=>False)
 |_,_=>False
theorem aFy{sb:Bool}{u x:aL}:b4 P gl D s K t (.r7 d e sz sb u x)=bV (br gl s.env u) (λa=>bV (br gl s.env x) (λb=>o7 s d e sz K ⟨⟩ a (AV.vx sb b)) ⟨⟩) ⟨⟩:=by
 rw[X8];simp only[aJ];cases br gl s.env u with
 |none=>rfl|some a=>cases br gl s.env x with
  |none =>
   cases a with
   |bI id o n z=>cases o<;>rfl|_=>rfl
  |some b =>
   simp only[eI,Option.bind_some];cases AV.vx sb b with
   |none =>
    cases a with
    |bI id o n z=>cases o<;>rfl|_=>rfl
   |some p =>
    obtain⟨g,c⟩:=p;cases a with
    |aS z =>
     simp only[o7];by_cases h:z=sz/\g=sz/\c.length<=M
     ·rw[if_pos h,if_pos h];cases c<;>rfl
     ·rw[if_neg h,if_neg h];rfl
    |bI id o n z=>cases o with
     |zero =>
      simp only[o7];cases s.heap[id]? with
      |none=>rfl|some bM=>cases bM with
       |buf cB cs =>
        simp only;by_cases h:cB=e/\z=sz/\g=sz/\n*sz<=cs.length/\n+c.length<=M
        ·rw[if_pos h,if_pos h];rfl
        ·rw[if_neg h,if_neg h];rfl
       |_=>rfl
     |succ o=>rfl
    |_=>rfl
theorem Q7(q:ak):(iL q).map AV.a1=iL q:=by
 rw[iL,List.map_map];exact List.map_congr_left λ_ _=>rfl
theorem ahP(q:ak):((iL q).map λv:AV=>v.cells.map AV.a1).flatten=iL q:=by
 induction q with
 |nil=>rfl|cons c r ih =>
  simp only[iL,aKB,List.flatten_cons]at ih ⊢;rw[ih];rfl
theorem aFz(p q:ak):iL (p++q)=iL p++iL q:=by simp[iL]
theorem ahQ{p:ak}(h:s.heap[id]?=some (.buf e (iL p))/\n=p.length/\n+q.length<=M) :
  o7 s d e 1 K t (.bI id 0 n 1) (some (1,iL q))=di { s with heap:=s.heap.set id .dead++[ay.buf e (iL (p++q)),.dead] } d (.bI s.heap.length 0 (p++q).length 1) K ⟨⟩:=by
 obtain⟨a,rfl,b⟩:=h;simp only[o7,a];rw[if_pos ⟨trivial,trivial,trivial,by rw[AG];omega,by rw[AG];exact b⟩,Nat.mul_one,aKZ (by rw[AG];exact aKK _),Q7,ahP,aFz,AG,aKF]
theorem ahR(h:q≠[]/\q.length<=M) :
  o7 s d e 1 K t (.aS 1) (some (1,iL q))=di { s with heap:=s.heap++[ay.buf e (iL q),.dead] } d (.bI s.heap.length 0 q.length 1) K ⟨⟩:=by
 obtain⟨b,g⟩:=h;cases q with
 |nil=>exact absurd rfl b|cons c r =>
  have ae:=ahP (c::r);have a:=AG (c::r);simp only[iL,aKB]at ae a ⊢;simp only[o7];rw[if_pos ⟨trivial,trivial,by rw[a];exact g⟩];rw[aKB,ae,a]
theorem aFA :o7 s d e 1 K t (.aS 1) (some (1,iL []))=di s d (.aS 1) K ⟨⟩:=by
 simp only[o7,iL,List.map_nil,List.length_nil];rw[if_pos ⟨trivial,trivial,Nat.zero_le _⟩]
theorem aFB{o:Option Nat} :AV.vx false (.list o sz xs)=some (sz,xs):=_root_.id rfl
theorem aqH :AV.vx false (.aS sz)=some (sz,[]):=_root_.id rfl
theorem aFC :AV.vx true (.str q)=some (1,iL q):=rfl
end
variable {α:Type}{l:List α}{i:Nat}
theorem dV{x:α}(h:i<l.length):(l.set i x)[i]?=some x:=by simp[h]
theorem cj{j:Nat}{x:α}(h:i≠j):(l.set i x)[j]?=l[j]?:=by simp[h]
variable {m:List α}
theorem dE(h:i<l.length):(l++m)[i]?=l[i]?:=List.getElem?_append_left h
theorem e5{x:α}(h:i=l.length):(l++x::m)[i]?=some x:=by subst h;simp
variable {y:α}
theorem fs{x:α}(h:i=l.length+1):(l++x::y::m)[i]?=some y:=by subst h;simp
theorem fj{x:α}(h:i=l.length):(l++x::m).set i y=l++y::m:=by simp_all
theorem C6{x:α}(h:l[i]?=some x):l.set i x=l:=by
 apply List.ext_getElem?;intro j;by_cases al:i=j
 ·grind
 ·rw[List.getElem?_set_ne al]
variable {H:List ay}
theorem dq{o:ay}(h:H[i]?=some o):i<H.length:=by grind
attribute [go_sem ↓ 5000] aEL aEQ aES aEX aE0 aE4 aE7 aE8 aFa aFd aFg aFi aFj aFl aFm aFp aFq aFt aFv aFy
attribute [go_sem 5000] ahA aER aEM aEN aEO aEP ahC aET aEU aEV aEW ahE ahG ahK aE5 ahM aE6 ahO aE9 aFb aFc aFe aFf aFh aFk aFn aFo aFr aFs aFx aFC aFB aqH
open Enc (enc)
def Gm(l:Env)(H:List ay)(t off e sz:Nat)(jg:List AV)(id n dW:Nat):Option ay->Option au
 |some (.buf cB cs)=>if cB=e/\dW=sz/\n*sz<=cs.length/\((cs.take (n*sz)).map AV.a1).all AV.eH=true/\n<=M then
    some { env:=(N l).ins t (.b (jg.set off (.list none sz (chunk sz n ((cs.take (n*sz)).map AV.a1))))),heap:=H.set id .dead }else none
 |_=>none
def Gn(l:Env)(H:List ay)(t off e sz:Nat)(jg:List AV):Option AV->Option au
 |some (.bI id 0 n dW)=>Gm l H t off e sz jg id n dW H[id]?|some _=>some ⟨N l,H⟩|none=>none
def Rb(l:Env)(H:List ay)(t off e sz:Nat):Option dc->Option au
 |some (.b jg)=>Gn l H t off e sz jg jg[off]?|_=>none
variable {e:Nat}
theorem aFM{l:Env}{t off sz:Nat}:BS ⟨N l,H⟩ t off e sz=Rb l H t off e sz (Env.get l t):=by
 unfold BS Rb;simp only[qx];rfl
theorem aFN(l:Env)(H:List ay)(t off e sz:Nat)(a:List AV):Rb l H t off e sz (some (.b a))=Gn l H t off e sz a a[off]?:=_root_.id rfl
theorem aFO(l:Env)(H:List ay)(t off e sz:Nat)(a:List AV)(o:Option Nat)(z:Nat)(xs:List AV):Gn l H t off e sz a (some (.list o z xs))=some ⟨N l,H⟩:=_root_.id rfl
theorem aFP(l:Env)(H:List ay)(t off e sz:Nat)(a:List AV)(id n z:Nat):Gn l H t off e sz a (some (.bI id 0 n z))=Gm l H t off e sz a id n z H[id]?:=_root_.id rfl
theorem aFQ{l:Env}{H:List ay}{t off e id n:Nat}{a:List AV}{m:List I}(h:m.length=n/\n<=M):Gm l H t off e 2 a id n 2 (some (.buf e (c3 m)))=some ⟨N ((t,.b (a.set off (.list none 2 (m.map I.enc))))::l),H.set id .dead⟩:=by
 obtain⟨h,b⟩:=h;have c:(c3 m).take (n*2)=c3 m:=aKZ (by rw[ll,h];exact aKK _);simp only[Gm,c,C2,Gc,ll,h,true_and,aKK,b,if_true];rw[<-h,Gd];simp only[b7,List.foldr_cons]
attribute [go_sem ↓ 5000] aFM
attribute [go_sem 5000] aFN aFO aFP
def kI(S:List I)(a:I):Bool:=S.any λb=>c4 b==c4 a
def kJ(S:List I)(a:I):List I:=if kI S a=true then S else S++[a]
def jc(S:List I)(n:ak):List I:=S.filter λb=>b.name==n
structure jN(km:List (ak×I))(bu:List (ak×List I))(S:List I):Prop where
 o8:(cd km).Nodup
 r0:(cd bu).Nodup
 Ku:∀s,getM km s=S.find? λb=>c4 b==s
 Rc:∀s,getM bu s=if jc S s=[]then none else some (jc S s)
 jn:(S.map c4).Nodup
theorem jN.nil:jN [] [] []:=⟨.nil,.nil,λ_=>rfl,λ_=>rfl,.nil⟩
variable {km:List (ak×I)}{bu:List (ak×List I)}{S:List I}
theorem jN.has(h:jN km bu S)(a:I):(getM km (c4 a)).isSome=kI S a:=by
 rw[h.Ku,kI,aK3,List.find?_isSome,aKJ]
theorem aFR(S:List I)(a:I)(s:ak):jc (S++[a]) s=if a.name=s then jc S s++[a]else jc S s:=by
 rw[jc,List.filter_append];by_cases h:a.name=s
 ·simp[h,jc]
 ·simp[h,jc]
variable {a:I}
theorem jN.add(h:jN km bu S)(aG:kI S a=false):jN (fV km (c4 a) a) (fV bu a.name (jc S a.name++[a])) (S++[a]):=by
 refine⟨AE h.o8 _ _,AE h.r0 _ _,λs=>?_,λs=>?_,?_⟩
 ·rw[w5,h.Ku,List.find?_append];have d:=h.has a;rw[aG,h.Ku]at d;by_cases ax:s=c4 a
  ·grind
  ·rw[if_neg ax];simp[Ne.symm ax]
 ·rw[w5,aFR,h.Rc];by_cases ax:s=a.name
  ·subst ax;simp
  ·rw[if_neg ax,if_neg (Ne.symm ax)]
 ·rw[aKY,aKU];refine⟨h.jn,be,λx ah y c=>?_⟩;simp only[aKB,List.map_nil,aKG]at c;subst c;intro he;subst he;obtain⟨b,ae,he⟩:=aKC.1 ah;have:kI S a=true:=aKJ.2 ⟨b,ae,by simp[he]⟩;rw[aG]at this;cases this
theorem jN.mem(h:jN km bu S)(s:ak)(b:I):(s,b)∈km↔b∈S/\s=c4 b:=by
 rw[<-sE h.o8,h.Ku];constructor
 ·grind
 ·rintro⟨d,rfl⟩;have f:=h.jn;clear h;induction S with
  |nil=>cases d|cons c r ih=>grind
theorem jN.len(h:jN km bu S):km.length=S.length:=by
 have c:(cd km).Perm (S.map c4):=(List.perm_ext_iff_of_nodup h.o8 h.jn).2 λs=>by
  constructor
  ·intro ax;obtain⟨p,ar,rfl⟩:=aKC.1 ax;obtain⟨s,b⟩:=p;obtain⟨d,rfl⟩:=(h.mem s b).1 ar;exact aKC.2 ⟨b,d,rfl⟩
  ·intro ax;obtain⟨b,ae,rfl⟩:=aKC.1 ax;exact aKC.2 ⟨(c4 b,b),(h.mem _ _).2 ⟨ae,rfl⟩,rfl⟩
 have:=c.length_eq;simpa[cd]using this
variable {L:List I}
theorem ahV(b:(L.map c4).Nodup)(c:∀a∈L,a∈S):L.length<=S.length:=by
 have h:(L.map c4).length<=(S.map c4).length:=List.Nodup.length_le_of_subset b (λs ax=>by
  obtain⟨a,aG,rfl⟩:=aKC.1 ax;exact aKC.2 ⟨a,c a aG,rfl⟩)
 simpa using h
theorem aFS(g:(L.map c4).Nodup)(f:∀a∈L,a∈S)(aG:a∈S)(h:c4 a∉L.map c4):((L++[a]).map c4).Nodup/\(∀b∈L++[a],b∈S)/\L.length+1<=S.length:=by
 have c:((L++[a]).map c4).Nodup:=by grind
 have d:∀b∈L++[a],b∈S:=λb ae=>by
  rcases aKE.1 ae with ae|ae
  ·exact f b ae
  ·grind
 exact⟨c,d,by simpa using ahV c d⟩
theorem jN.all(b:jN km bu S)(f:∀a∈L,a∈S)(j:km.filter (λp=>!(L.map c4).contains p.1)=[]):∀a,a∈L↔a∈S:=λa=>⟨f a,λaG=>by
 have g:(c4 a,a)∈km:=(b.mem _ _).2 ⟨aG,rfl⟩;have k:(L.map c4).contains (c4 a)=true:=by
  cases d:(L.map c4).contains (c4 a)with
  |true=>rfl|false =>
   have:(c4 a,a)∈km.filter (λp=>!(L.map c4).contains p.1):=aKN.2 ⟨g,by simp only[d];rfl⟩;rw[j]at this;cases this
 obtain⟨c,d,he⟩:=aKC.1 (aKX.1 k);have n:(c4 a,c)∈km:=(b.mem _ _).2 ⟨f c d,he.symm⟩;have h:=(sE b.o8).2 g;rw[(sE b.o8).2 n]at h;rw[<-Option.some.inj h];exact d⟩
structure vd(e:Nat)(H:List ay)(x k b:Nat)(n m:Nat)(km:List (ak×I))(bu:List (ak×List I)):Prop where
 ah:H[x]?=some (.cells [.map k,.map b])
 hk:H[k]?=some (.map n (cI I.enc km))
 ae:H[b]?=some (.map m (cI (lO e) bu))
 cG:k≠b
variable {k b n:Nat}
theorem vd.Re{x m:Nat}(h:vd e H x k b n m km bu):x≠k:=λhe=>by have:=h.ah;rw[he,h.hk]at this;cases this
theorem vd.Rf{x m:Nat}(h:vd e H x k b n m km bu):x≠b:=λhe=>by have:=h.ah;rw[he,h.ae]at this;cases this
def gV(e:Nat)(H:List ay)(x k b:Nat)(S:List I):Prop:=∃n m km bu,vd e H x k b n m km bu/\jN km bu S
variable {H':List ay}
theorem gV.of{x:Nat}(h:gV e H x k b S)(c:H'[x]?=H[x]?)(d:H'[k]?=H[k]?)(f:H'[b]?=H[b]?):gV e H' x k b S:=by
 obtain⟨n,m,km,bu,aE,g⟩:=h;exact⟨n,m,km,bu,⟨c.trans aE.ah,d.trans aE.hk,f.trans aE.ae,aE.cG⟩,g⟩
variable {id:Nat}{cs:List AV}{ks:List ak}{v:ak}
theorem aFT{e0:Env}{K:au->Prop}{t:aN K}{d:Nat}(h:H[id]?=some (.buf e cs)/\n<=cs.length/\cs.take n=ks.map AV.str/\n+1<=M) :
  o7 ⟨e0,H⟩ d e 1 K t (.bI id 0 n 1) (some (1,[.str v]))=di ⟨e0,H.set id .dead++[ay.buf e ((ks++[v]).map AV.str),.dead]⟩ d (.bI H.length 0 (n+1) 1) K ⟨⟩:=by
 obtain⟨c,o,f,g⟩:=h;have j:(ks.map AV.str).map AV.a1=ks.map AV.str:=by rw[List.map_map];rfl
 simp only[o7,c];rw[if_pos ⟨trivial,trivial,trivial,am,by simpa using g⟩,Nat.mul_one,f,j,aKY];rfl
abbrev Sub:=List (ak×I)
def eJ(t:I):Bool:=decide (t.args.length=0)&&eg t.name
def mn(σ:Sub)(v:ak)(t:I):Bool×Sub:=match getM σ v with|some u=>(b6 u t==0,σ)|none=>(true,σ++[(v,t)])
mutual
def eA:I->I->Sub->Bool×Sub
 |.mk n l,g,σ=>if eJ (.mk n l)=true then mn σ n g else if n≠g.name\/l.length≠g.args.length then(false,σ)else gj l g.args σ
def gj:List I->List I->Sub->Bool×Sub
 |p::ps,g::gs,σ=>if(eA p g σ).1=true then gj ps gs (eA p g σ).2 else(false,(eA p g σ).2)|_,_,σ=>(true,σ)
end
theorem Rg(p g:I)(σ:Sub):eA p g σ=if eJ p=true then mn σ p.name g else if p.name≠g.name\/p.args.length≠g.args.length then(false,σ)else gj p.args g.args σ:=by
 obtain⟨n,l⟩:=p;rw[eA];rfl
variable {l m:List I}
theorem aFU(c:i<l.length)(d:i<m.length)(σ:Sub):gj (l.drop i) (m.drop i) σ=if(eA l[i]! m[i]! σ).1=true then gj (l.drop (i+1)) (m.drop (i+1)) (eA l[i]! m[i]! σ).2 else(false,(eA l[i]! m[i]! σ).2):=by
 rw[fi c,fi d,gj]
theorem aFV(c:l.length<=i)(σ:Sub):gj (l.drop i) (m.drop i) σ=(true,σ):=by
 rw[List.drop_eq_nil_of_le c];simp[gj]
mutual
def eD(σ:Sub):I->I
 |.mk n l=>match l with
  |[]=>if eg n=true then(getM σ n).getD (.mk n [])else .mk n []|t::r=>.mk n (eD σ t::Gp σ r)
def Gp(σ:Sub):List I->List I|[]=>[]|t::r=>eD σ t::Gp σ r
end
theorem aFW(σ:Sub)(l:List I):Gp σ l=l.map (eD σ):=by
 induction l with
 |nil=>simp[Gp]|cons t r ih=>simp[Gp,ih]
theorem C7(σ:Sub)(t:I):eD σ t=if eJ t=true then(getM σ t.name).getD t else if t.args.length=0 then t else .mk t.name (t.args.map (eD σ)):=by
 obtain⟨n,l⟩:=t;cases l with
 |nil =>
  by_cases h:eg n=true<;>simp[eD,eJ,I.args,I.name,h]
 |cons t r=>simp[eD,eJ,I.args,I.name,aFW]
def Rh(e:Nat)(H:List ay)(B:Nat)(ord:AV)(ks:List ak):Prop :=
 (ord=.aS 1/\ks=[])\/∃o cs,B<=o/\ord=.bI o 0 ks.length 1/\H[o]?=some (.buf e cs)/\ks.length<=cs.length/\cs.take ks.length=ks.map AV.str
structure Ri(e:Nat)(H:List ay)(cb tid B:Nat)(ord:AV)(jd:Nat)(m:List (ak×I))(σ:Sub):Prop where
 b:H[cb]?=some (.cells [.map tid,ord])
 t:H[tid]?=some (.map jd (cI I.enc m))
 AH:(cd m).Nodup
 yN:∀s,getM m s=getM σ s
 o:Rh e H B ord (cd σ)
 Gq:cb<B
 Gr:tid<B
 Gs:B<=H.length
 oV:(cd σ).Nodup
variable {cb tid B:Nat}{ord:AV}{m:List (ak×I)}{σ:Sub}
theorem Ri.ne{jd:Nat}(h:Ri e H cb tid B ord jd m σ):cb≠tid:=λhe=>by have:=h.b;rw[he,h.t]at this;cases this
def iy(e:Nat)(H:List ay)(cb tid B:Nat)(σ:Sub):Prop:=∃ord jd m,Ri e H cb tid B ord jd m σ
def jO(B cb tid:Nat)(H H':List ay):Prop:=H.length<=H'.length/\∀i,i<B->i≠cb->i≠tid->H'[i]?=H[i]?
theorem jO.refl(B cb tid:Nat)(H:List ay):jO B cb tid H H:=⟨aKK _,λ_ _ _ _=>rfl⟩
variable {qG:List ay}
theorem jO.trans(d:jO B cb tid H H')(f:jO B cb tid H' qG):jO B cb tid H qG :=
 ⟨Nat.le_trans d.1 f.1,λi a b c=>(f.2 i a b c).trans (d.2 i a b c)⟩
theorem iy.ex(h:iy e H cb tid B σ){c:Sub}(d:(cd c).Nodup):∃H',iy e H' cb tid B c/\jO B cb tid H H':=by
 obtain⟨ord,jd,m,h⟩:=h;have ae:=h.Gq;have f:=h.Gr;have fN:=h.Gs;have cG:=h.ne
 refine⟨((H.set cb (.cells [.map tid,.bI H.length 0 (cd c).length 1])).set tid (.map 0 (cI I.enc c)))++[.buf e ((cd c).map AV.str)],⟨.bI H.length 0 (cd c).length 1,0,c,?_,?_,d,λ_=>rfl,.inr ⟨H.length,(cd c).map AV.str,fN,rfl,?_,be,by rw[aKZ be]⟩,ae,f,d9,d⟩,be,λi al g j=>?_⟩
 ·grind
 ·grind
 ·rw[e5 be]
 ·grind
theorem iy.app(h:iy e H cb tid B σ)(l:List ay):iy e (H++l) cb tid B σ:=by
 obtain⟨ord,jd,m,h⟩:=h;refine⟨ord,jd,m,by rw[dE (dq h.b)];exact h.b,by rw[dE (dq h.t)];exact h.t,h.AH,h.yN,?_,h.Gq,h.Gr,by have:=h.Gs;simp;omega,h.oV⟩;rcases h.o with h|⟨o,cs,d,f,c,g⟩
 ·exact .inl h
 ·exact .inr ⟨o,cs,d,f,by rw[dE (dq c)];exact c,g⟩
theorem jO.app(fN:B<=H.length)(l:List ay):jO B cb tid H (H++l):=⟨be,λi al _ _=>dE am⟩
theorem Gt(σ:List (ak×α))(v:ak)(t:α):cd (σ++[(v,t)])=cd σ++[v]:=by simp[cd]
theorem ahW{σ:List (ak×α)}{t:α}(h:getM σ v=none)(s:ak):getM (σ++[(v,t)]) s=if s=v then some t else getM σ s:=by
 induction σ with
 |nil=>simp[getM]|cons p r ih =>
  obtain⟨k,u⟩:=p;simp only[getM]at h;by_cases hk:v=k
  ·simp[hk]at h
  ·rw[if_neg hk]at h;simp only[aKP,getM,ih h];by_cases ax:s=k
   ·subst ax;simp[Ne.symm hk]
   ·simp[ax]
theorem Rj(h:(cd σ).Nodup)(v:ak)(t:I):(cd (mn σ v t).2).Nodup:=by
 unfold mn;cases c:getM σ v with
 |some u=>exact h|none =>
  simp only[Gt];rw[aKU];refine⟨h,be,λa aG b ae=>?_⟩;simp only[aKG]at ae;subst ae;exact λhe=>getM_none.1 c (he▸aG)
mutual
theorem C8:∀(p g:I){σ:Sub},(cd σ).Nodup->(cd (eA p g σ).2).Nodup
 |.mk n l,g,σ,h=>by
  rw[eA];split
  ·exact Rj h _ _
  ·split
   ·exact h
   ·exact ahX l g.args h
theorem ahX:∀(l m:List I){σ:Sub},(cd σ).Nodup->(cd (gj l m σ).2).Nodup
 |p::ps,g::gs,σ,h=>by
  rw[gj];split
  ·exact ahX ps gs (C8 p g h)
  ·exact C8 p g h
 |[],_,σ,h=>by simpa[gj]using h|_::_,[],σ,h=>by simpa[gj]using h
end
theorem aFX(h:(cd σ).Nodup)(n:Nat)(s:ak):getM (σ.take n) s=if s∈(cd σ).drop n then none else getM σ s:=by
 induction σ generalizing n with
 |nil=>simp[getM,cd]|cons p r ih =>
  obtain⟨k,u⟩:=p;simp only[cd,aKB,aK2]at h;cases n with
  |zero =>
   simp only[List.take_zero,List.drop_zero];by_cases ax:s∈cd ((k,u)::r)
   ·rw[if_pos ax];rfl
   ·rw[if_neg ax];exact(getM_none.2 ax).symm
  |succ n =>
   have ih:=ih h.2 n;simp only[List.take_succ_cons,getM,cd,aKB,List.drop_succ_cons]at ih ⊢;by_cases ax:s=k
   ·grind
   ·simp only[if_neg ax];exact ih
theorem Rk(σ:List (ak×α))(n:Nat):cd (σ.take n)=(cd σ).take n:=by simp[cd]
theorem aFY(h:cs.take ks.length=ks.map AV.str)(f:ks.length<=cs.length)(al:i<ks.length):wV 1 i (some (.buf e cs))=some [.str ks[i]!]:=by
 have c:cs[i]?=some (.str ks[i]!):=by
  have:=congrArg (λl=>l[i]?) h;simp only[List.getElem?_take,al,if_true,List.getElem?_map,Qk al,aKT]at this;exact this
 rw[CR,if_pos am];have d:i<cs.length:=by omega
 rw[List.drop_eq_getElem_cons d];rw[aK5 d]at c;simp[Option.some.inj c]
theorem aFZ(σ:Sub)(v:ak)(t:I):(mn σ v t).2.length<=σ.length+1:=by
 unfold mn;split<;>simp
mutual
theorem Rl:∀(p g:I)(σ:Sub),(eA p g σ).2.length<=σ.length+(ck p).length
 |.mk n l,g,σ=>by
  rw[eA];split
  ·rename_i c;have d:l.length=0:=by simp_all[eJ,I.args]
   have:=aFZ σ n g;rw[nJ,if_pos (show(I.mk n l).args.length=0 from d)];simpa using this
  ·split
   ·simp
   ·rename_i c _;cases l with
    |nil=>simp[gj]|cons t r =>
     have:=ahY (t::r) g.args σ;rw[nJ];simpa[I.args]using this
theorem ahY:∀(l m:List I)(σ:Sub),(gj l m σ).2.length<=σ.length+(bF l).length
 |p::ps,g::gs,σ=>by
  have c:=Rl p g σ;rw[gj];simp only[bF,aKF];split
  ·have:=ahY ps gs (eA p g σ).2;omega
  ·simp only;omega
 |[],_,σ=>by simp[gj]|_::_,[],σ=>by simp[gj]
end
theorem aF0:∀t:I,1<=(ck t).length:=I.ind λt ih=>by
 rw[nJ];split
 ·simp
 ·cases c:t.args with
  |nil=>simp_all|cons u r =>
   have:=ih u mt;simp only[bF,aKF];omega
theorem ahZ:∀l:List I,l.length<=(bF l).length
 |[]=>by simp|t::r=>by have:=aF0 t;have:=ahZ r;simp only[bF,aKF,aKH];omega
theorem aF1(h:i<l.length):(bF (l.drop i)).length=(ck l[i]!).length+(bF (l.drop (i+1))).length:=by
 rw[fi h];simp only[bF,aKF]
def o9(S:List I)(σ:Sub)(l:Lit):Bool :=
 if(eD σ l.atom).name==eG&&decide ((eD σ l.atom).args.length=2)then !((b6 (eD σ l.atom).args[0]! (eD σ l.atom).args[1]! != 0)==l.neg)else(!kI S (eD σ l.atom))==l.neg
def h5(S:List I)(rest:List Lit)(hd:I):List Lit->Sub->List I
 |[],σ=>if rest.all (o9 S σ)=true then[eD σ hd]else[]|l::gW,σ=>(jc S l.atom.name).flatMap λa=>if(eA l.atom a σ).1=true then h5 S rest hd gW (eA l.atom a σ).2 else[]
def nc(S:List I)(r:aU):List I:=h5 S (r.body.filter λl=>!dB l) r.head (r.body.filter dB) []
theorem gV.app{x:Nat}(h:gV e H x k b S)(l:List ay):gV e (H++l) x k b S:=by
 obtain⟨n,m,km,bu,aE,c⟩:=h;exact⟨n,m,km,bu,⟨by rw[dE (dq aE.ah)];exact aE.ah,by rw[dE (dq aE.hk)];exact aE.hk,by rw[dE (dq aE.ae)];exact aE.ae,aE.cG⟩,c⟩
structure jP(AJ w:AV)(df:List Lit):Prop where
 no:AJ.a1=w
 Ky:w.a1=w
 len:∀H,ou 1 H w=some (.int .i64 (df.length:Int))
 lV:∀i:Nat,i<df.length->CS 3 w (.int .i64 i)=some (.cL df[i]!.enc.cells)
theorem jP.nil:jP (.aS 3) (.aS 3) []:=⟨rfl,rfl,λ_=>rfl,λi h=>f9⟩
theorem jP.list(o:Option Nat)(df:List Lit):jP (.list o 3 (df.map Lit.enc)) (.list none 3 (df.map Lit.enc)) df:=⟨rfl,rfl,λH=>by rw[age,aKQ],λi h=>by
 have c:(3=3/\(0:Int)<=(i:Int)/\(i:Int)<((df.map Lit.enc).length:Int)):=⟨rfl,am,by rw[aKQ];omega⟩;rw[agf,if_pos c,Int.toNat_natCast,agr h];rfl⟩
theorem Rh.len(h:Rh e H B ord ks):ord.a1=ord/\∀H,ou 1 H ord=some (.int .i64 (ks.length:Int)):=by
 rcases h with⟨rfl,rfl⟩|⟨o,cs,_,rfl,_⟩
 ·exact⟨rfl,λ_=>rfl⟩
 ·exact⟨rfl,λ_=>rfl⟩
theorem aGh(σ:Sub)(v:ak)(t:I):(mn σ v t).2.take σ.length=σ:=by
 unfold mn;split<;>simp
mutual
theorem Kz:∀(p g:I)(σ:Sub),(eA p g σ).2.take σ.length=σ
 |.mk n l,g,σ=>by
  rw[eA];split
  ·exact aGh _ _ _
  ·split
   ·simp
   ·exact Rq l g.args σ
theorem Rq:∀(l m:List I)(σ:Sub),(gj l m σ).2.take σ.length=σ
 |p::ps,g::gs,σ=>by
  have c:=Kz p g σ;rw[gj];split
  ·have d:=Rq ps gs (eA p g σ).2;have f:σ.length<=(eA p g σ).2.length:=by
    have:=congrArg List.length c;rw[List.length_take]at this;omega
   have:=congrArg (λl=>l.take σ.length) d;simp only[List.take_take,Nat.min_eq_left f,c]at this;exact this
  ·exact c
 |[],_,σ=>by simp[gj]|_::_,[],σ=>by simp[gj]
end
theorem aGi(p g:I)(σ:Sub):σ.length<=(eA p g σ).2.length:=by
 have:=congrArg List.length (Kz p g σ);rw[List.length_take]at this;omega
def mq(W:Nat->Prop)(H H':List ay):Prop:=H.length<=H'.length/\∀i,i<H.length->¬W i->H'[i]?=H[i]?
structure nM(rM bE pa:Nat)(S:List I)(df dG:List Lit)(y:AV)(dP:AV)(A B x k b gF rs gN fb gO dm cb tid:Nat)(H:List ay):Prop where
 Rr:gV rM H x k b S
 KA:∃AJ w,H[gF]?=some (.cells [AJ])/\jP AJ w df
 aia:∃AJ w,H[rs]?=some (.cells [AJ])/\jP AJ w dG
 ce:H[gN]?=some (.cells [.ptr x 0])
 AK:H[fb]?=some (.cells [.ptr cb 0])
 aib:H[gO]?=some (.cells [y])
 Rs:H[dm]?=some (.cells [dP])
 yP:x<A/\k<A/\b<A/\A<=gF/\A<=rs/\A<=gN/\A<=fb/\A<=gO/\A<=dm/\gF<B/\rs<B/\gN<B/\fb<B/\gO<B/\dm<B/\A<=B/\B<=H.length/\A<=cb/\A<=tid
 aic:gF≠cb/\gF≠tid/\rs≠cb/\rs≠tid/\gN≠cb/\gN≠tid/\fb≠cb/\fb≠tid/\gO≠cb/\gO≠tid/\dm≠cb/\dm≠tid
variable {rM bE pa:Nat}{df dG:List Lit}{y dP:AV}{A gF rs gN fb gO dm:Nat}
theorem nM.of{x:Nat}(h:nM rM bE pa S df dG y dP A B x k b gF rs gN fb gO dm cb tid H)
  (Y:H.length<=H'.length)(ah:H'[x]?=H[x]?)(hk:H'[k]?=H[k]?)(ae:H'[b]?=H[b]?)(he:∀i,A<=i->i<B->i≠cb->i≠tid->H'[i]?=H[i]?):nM rM bE pa S df dG y dP A B x k b gF rs gN fb gO dm cb tid H':=by
 obtain⟨E,F,G,o,p,q,r,s,t,m1,u,w,z,C,D,J,Z,K,c⟩:=h.yP;obtain⟨O,P,Q,R,T,V,W,X,d,f,g,j⟩:=h.aic;refine⟨h.Rr.of ah hk ae,?_,?_,?_,?_,?_,?_,⟨E,F,G,o,p,q,r,s,t,m1,u,w,z,C,D,J,am,K,c⟩,h.aic⟩
 ·rw[he gF o m1 O P];exact h.KA
 ·rw[he rs p u Q R];exact h.aia
 ·rw[he gN q w T V];exact h.ce
 ·rw[he fb r z W X];exact h.AK
 ·rw[he gO s C d f];exact h.aib
 ·rw[he dm t D g j];exact h.Rs
theorem nM.AP{x:Nat}(h:nM rM bE pa S df dG y dP A B x k b gF rs gN fb gO dm cb tid H)(c:jO B cb tid H H'):nM rM bE pa S df dG y dP A B x k b gF rs gN fb gO dm cb tid H':=by
 obtain⟨o,p,q,r,s,t,u,w,z,m1,C,D,E,F,G,J,K,O,d⟩:=h.yP;exact h.of c.1 (c.2 x am am am) (c.2 k am am am) (c.2 b am am am) λi _ f g j=>c.2 i f g j
variable {W:Nat->Prop}
theorem nM.Gy{x:Nat}(h:nM rM bE pa S df dG y dP A B x k b gF rs gN fb gO dm cb tid H)(c:mq W H H')
  (d:∀i,W i->i<A/\i≠x/\i≠k/\i≠b):nM rM bE pa S df dG y dP A B x k b gF rs gN fb gO dm cb tid H':=by
 obtain⟨g,j,o,p,q,r,s,t,u,m1,z,C,D,E,F,G,J,K,f⟩:=h.yP;exact h.of c.1 (c.2 x am λw=>(d x w).2.1 rfl) (c.2 k am λw=>(d k w).2.2.1 rfl) (c.2 b am λw=>(d b w).2.2.2 rfl) λi O P _ _=>c.2 i am λw=>by have:=(d i w).1;omega
theorem iy.Gy(h:iy e H cb tid B σ)(c:mq W H H')(d:∀i,W i->i<A)(s:A<=cb)(t:A<=tid)(u:A<=B):iy e H' cb tid B σ:=by
 obtain⟨ord,jd,m,h⟩:=h;have g:=dq h.b;have j:=dq h.t
 refine⟨ord,jd,m,by rw[c.2 cb g λw=>by have:=d _ w;omega];exact h.b,by rw[c.2 tid j λw=>by have:=d _ w;omega];exact h.t,h.AH,h.yN,?_,h.Gq,h.Gr,by have:=h.Gs;have:=c.1;omega,h.oV⟩;rcases h.o with h|⟨o,cs,p,q,f,r⟩
 ·exact .inl h
 ·exact .inr ⟨o,cs,p,q,by rw[c.2 o (dq f) λw=>by have:=d _ w;omega];exact f,r⟩
def mr(A:Nat)(W:Nat->Prop)(H H':List ay):Prop:=H.length<=H'.length/\∀i,i<A->¬W i->H'[i]?=H[i]?
theorem mr.refl(A:Nat)(W:Nat->Prop)(H:List ay):mr A W H H:=⟨aKK _,λ_ _ _=>rfl⟩
theorem mr.trans(c:mr A W H H')(d:mr A W H' qG):mr A W H qG:=⟨Nat.le_trans c.1 d.1,λi a b=>(d.2 i a b).trans (c.2 i a b)⟩
theorem jO.AQ(h:jO B cb tid H H')(c:A<=cb)(d:A<=tid)(f:A<=B)(W:Nat->Prop):mr A W H H':=⟨h.1,λi al _=>h.2 i am am am⟩
theorem mq.AQ(h:mq W H H')(cE:A<=H.length):mr A W H H':=⟨h.1,λi al c=>h.2 i am c⟩
theorem mr.app(cE:A<=H.length)(l:List ay):mr A W H (H++l):=⟨be,λi al _=>dE am⟩
theorem mq.refl(W:Nat->Prop)(H:List ay):mq W H H:=⟨aKK _,λ_ _ _=>rfl⟩
theorem mq.trans(c:mq W H H')(d:mq W H' qG):mq W H qG:=⟨Nat.le_trans c.1 d.1,λi a b=>(d.2 i (by have:=c.1;omega) b).trans (c.2 i a b)⟩
structure Gz(S:List I)(df dG:List Lit)(hd:I)(Good:I->Prop)(pb:Sub->Prop):Prop where
 m:∀σ l a,pb σ->l∈df->a∈S->(eA l.atom a σ).1=true->pb (eA l.atom a σ).2
 t:∀σ l,pb σ->l∈dG->(c4 (eD σ l.atom)).length<=M
 h:∀σ,pb σ->Good (eD σ hd)
 l:∀σ,pb σ->σ.length<=100000
 aGk:∀l∈df,(ck l.atom).length<=100000
 Ru:∀l∈dG,rJ l.atom<=100000
 hm:rJ hd<=100000
 aid:df.length<=100000
 II:dG.length<=100000
 aie:S.length<=100000
theorem KB{n:ak}(h:a∈jc S n):a∈S:=(aKN.1 h).1
theorem aGl(S:List I)(n:ak):(jc S n).length<=S.length:=aK6 _ _
theorem Rv{hd:I}{Good:I->Prop}{pb:Sub->Prop}(iH:Gz S df dG hd Good pb):∀(d:List Lit)(σ:Sub),(∀l∈d,l∈df)->pb σ->∀a∈h5 S dG hd d σ,Good a
 |[],σ,_,aE,a,aG=>by
  rw[h5]at aG;split at aG
  ·rw[aKG]at aG;rw[aG];exact iH.h σ aE
  ·cases aG
 |l::d,σ,f,aE,a,aG=>by
  rw[h5,aKR]at aG;obtain⟨c,g,aG⟩:=aG;split at aG
  ·rename_i hm;exact Rv iH d _ (λl h=>f l (aKL _ h)) (iH.m σ l c aE (f l (aKM ..)) (KB g) hm) a aG
  ·cases aG
def clean(s:ak):Prop:=∀c∈s,c≠40/\c≠41/\c≠44
mutual
def nd:I->Prop|.mk n l=>clean n/\qK l
def qK:List I->Prop|[]=>True|t::r=>nd t/\qK r
end
theorem aGK(l:List I):qK l↔∀t∈l,nd t:=by
 induction l with
 |nil=>simp[qK]|cons t r ih=>simp[qK,ih]
def De(r:ak):Prop:=∀c q,r=c::q->c=41\/c=44
def KR(r:ak):Prop:=∀c q,r=c::q->c=40\/c=41\/c=44
theorem De.KS{r:ak}(h:De r):KR r:=λc q e=>.inr (h c q e)
theorem Df:∀{s t u v:ak},clean s->clean t->KR u->KR v->s++u=t++v->s=t/\u=v
 |[],[],_,_,_,_,_,_,h=>⟨rfl,h⟩|[],c::t,u,v,_,f,hu,_,h=>by
  have:=hu c (t++v) h;have:=f c (aKM ..);simp_all
 |c::s,[],u,v,ax,_,_,g,h=>by
  have:=g c (s++u) h.symm;have:=ax c (aKM ..);simp_all
 |c::s,d::t,u,v,ax,f,hu,g,h=>by
  simp only[aKP,List.cons.injEq]at h;obtain⟨rfl,h⟩:=h;obtain⟨rfl,rfl⟩:=Df (λx ah=>ax x (aKL _ ah)) (λx ah=>f x (aKL _ ah)) hu g h;exact⟨rfl,rfl⟩
theorem Dg(r:ak):KR (40::r):=λc q e=>by simp_all
theorem aGL(r:ak):De (41::r):=λc q e=>by simp_all
theorem KT(l:List I)(r:ak):De (jM l++41::r):=by
 cases l with
 |nil=>exact aGL r|cons t l=>intro c q e;simp_all[jM]
mutual
theorem RG:∀(t u:I){r r':ak},nd t->nd u->De r->De r'->c4 t++r=c4 u++r'->t=u/\r=r'
 |.mk n [],.mk m [],r,r',h1,c,d,f,h=>by
  simp only[nd]at h1 c;simp only[c4]at h;obtain⟨rfl,rfl⟩:=Df h1.1 c.1 d.KS f.KS h;exact⟨rfl,rfl⟩
 |.mk n [],.mk m (u::g),r,r',h1,c,d,f,h=>by
  simp only[nd]at h1 c;simp only[c4,aKS,aKP]at h;obtain⟨rfl,e⟩:=Df h1.1 c.1 d.KS (Dg _) h;have:=d _ _ e;simp at this
 |.mk n (t::l),.mk m [],r,r',h1,c,d,f,h=>by
  simp only[nd]at h1 c;simp only[c4,aKS,aKP]at h;obtain⟨rfl,e⟩:=Df h1.1 c.1 (Dg _) f.KS h;have:=f _ _ e.symm;simp at this
 |.mk n (t::l),.mk m (u::g),r,r',h1,c,d,f,h=>by
  simp only[nd,qK]at h1 c;simp only[c4,aKS,aKP]at h;obtain⟨rfl,e⟩:=Df h1.1 c.1 (Dg _) (Dg _) h;simp only[List.cons.injEq,true_and,List.nil_append]at e;obtain⟨rfl,j⟩:=RG t u h1.2.1 c.2.1 (KT _ _) (KT _ _) e;obtain⟨rfl,rfl⟩:=aix l g h1.2.2 c.2.2 j;exact⟨rfl,rfl⟩
theorem aix:∀(l m:List I){r r':ak},qK l->qK m->jM l++41::r=jM m++41::r'->l=m/\r=r'
 |[],[],r,r',_,_,h=>by simpa[jM]using h|[],u::m,r,r',_,_,h=>by simp[jM]at h|t::l,[],r,r',_,_,h=>by simp[jM]at h|t::l,u::m,r,r',h1,c,h=>by
  simp only[qK]at h1 c;simp only[jM,aKP,aKS,List.cons.injEq,true_and]at h;obtain⟨rfl,e⟩:=RG t u h1.1 c.1 (KT _ _) (KT _ _) h;obtain⟨rfl,rfl⟩:=aix l m h1.2 c.2 e;exact⟨rfl,rfl⟩
end
variable {t u:I}
theorem RH(d:nd t)(f:nd u)(h:c4 t=c4 u):t=u :=
 (RG t u (r:=[]) (r':=[]) d f (λc q e=>mo) (λc q e=>mo) (by rw[h])).1
variable {s:ak}{a b c:Nat×Nat}
theorem aiy(h:nE s a b c=true):s.length<=16:=by
 unfold nE at h;split at h
 ·cases h
 ·grind
theorem aiz(h:nE s a b c=true):∀x∈s,hs x [a,b,c]=true:=by
 unfold nE at h;split at h
 ·cases h
 ·grind
theorem aiA{x:UInt8}(h:hs x [a,b,c]=true)(aG:44<a.1)(ae:44<b.1)(d:44<c.1):x≠40/\x≠41/\x≠44:=by
 simp only[hs,List.any_cons,List.any_nil,Bool.or_false,aKV,aKD,decide_eq_true_eq]at h;have:44<x.toNat:=by omega
 refine⟨?_,?_,?_⟩<;>(intro e;rw[e]at this;revert this;decide)
theorem aiB(h:dM s=true):nE s (97,122) (48,57) (45,45)=true:=by
 simp only[dM,aKD]at h;exact h.1.1.1
def yU(s:ak):Bool:=dM s||(fw s).isSome||eg s
theorem aiC(h:(fw s).isSome=true):s.length<=4/\s.all eZ=true:=by
 unfold fw at h;split at h
 ·cases h
 ·grind
theorem aGM(h:yU s=true):s.length<=16:=by
 simp only[yU,aKV]at h;rcases h with(h|h)|h
 ·exact aiy (aiB h)
 ·have:=(aiC h).1;omega
 ·exact aiy h
theorem aGN(h:yU s=true):clean s:=by
 simp only[yU,aKV]at h;intro x ah;rcases h with(h|h)|h
 ·exact aiA (aiz (aiB h) x ah) dw dw dw
 ·have:=aKI.1 (aiC h).2 x ah;simp only[eZ,aKD,decide_eq_true_eq]at this;have:44<x.toNat:=by omega
  refine⟨?_,?_,?_⟩<;>(intro e;rw[e]at this;revert this;decide)
 ·exact aiA (aiz h x ah) dw dw dw
theorem aGO(h:dM s=true):yU s=true:=by simp[yU,h]
theorem xb(n:Nat)(t:I)(v:Bool):cD (n+1) t v=(decide (t.args.length<=4)&&(if t.args.length=0 then dM t.name||(fw t.name).isSome||(v&&eg t.name)else t.args.all (λu=>cD n u v)&&dM t.name)):=rfl
variable {v:Bool}
theorem tZ(h:cD (n+1) t v=true):t.args.length<=4/\yU t.name=true/\(∀u∈t.args,cD n u v=true)/\(t.args.length=0->v=false->eg t.name=true->(dM t.name||(fw t.name).isSome)=true)/\(t.args.length≠0->dM t.name=true):=by
 rw[xb]at h;simp only[aKD,decide_eq_true_eq]at h;refine⟨h.1,?_⟩;by_cases d:t.args.length=0
 ·rw[if_pos d]at h;have g:t.args=[]:=List.eq_nil_of_length_eq_zero d;refine⟨?_,λu(f:u∈t.args)=>(by rw[g]at f;cases f),λ_ j _=>?_,λh=>absurd d h⟩
  ·have:=h.2;simp only[aKV,aKD]at this;simp only[yU,aKV];rcases this with h|h
   ·exact .inl h
   ·exact .inr h.2
  ·have:=h.2;rw[j]at this;simpa using this
 ·rw[if_neg d]at h;simp only[aKD]at h;exact⟨aGO h.2.2,aKI.1 h.2.1,λh=>absurd h d,λ_=>h.2.2⟩
theorem yV :∀{n m:Nat}{t:I},cD n t v=true->n<=m->cD m t v=true
 |0,_,_,h,_=>by cases h|n+1,m+1,t,h,hm=>by
  rw[xb]at h ⊢;simp only[aKD,decide_eq_true_eq]at h ⊢;refine⟨h.1,?_⟩;by_cases d:t.args.length=0
  ·rw[if_pos d]at h ⊢;exact h.2
  ·rw[if_neg d]at h ⊢;simp only[aKD]at h ⊢;exact⟨aKI.2 λu f=>yV (aKI.1 h.2.1 u f) am,h.2.2⟩
theorem RI:∀{n:Nat}{t:I},cD n t false=true->cD n t true=true
 |0,_,h=>by cases h|n+1,t,h=>by
  rw[xb]at h ⊢;simp only[aKD,decide_eq_true_eq]at h ⊢;refine⟨h.1,?_⟩;by_cases d:t.args.length=0
  ·grind
  ·rw[if_neg d]at h ⊢;simp only[aKD]at h ⊢;exact⟨aKI.2 λu f=>RI (aKI.1 h.2.1 u f),h.2.2⟩
theorem ua :∀{n:Nat}{t:I},cD n t v=true->nd t
 |0,_,h=>by cases h|n+1,.mk s l,h=>by
  have:=tZ h;simp only[nd];exact⟨aGN this.2.1,(aGK l).2 λu d=>ua (this.2.2.1 u d)⟩
theorem GD :∀{n:Nat}{t:I},cD n t v=true->rJ t<=4
 |0,_,h=>by cases h|n+1,t,h=>by
  have:=tZ h;rw[Kh];have:=Gf (l:=t.args) (n:=4) λu d=>GD (this.2.2.1 u d);omega
variable {b:Nat}
theorem aiD :∀(l:List I),(∀u∈l,(c4 u).length<=b)->(jM l).length<=l.length*(b+1)
 |[],_=>by simp[jM]|t::r,h=>by
  have f:=h t (aKM ..);have g:=aiD r λu d=>h u (aKL _ d);simp only[jM,aKH,aKF,Nat.add_mul,Nat.one_mul]at *;omega
theorem aGP(l:List I)(h:∀u∈l,(c4 u).length<=b):(kH l).length<=l.length*(b+1):=by
 cases l with
 |nil=>simp[kH]|cons t r =>
  have:=aiD (t::r) h;simp only[jM,kH,aKH,aKF]at *;omega
theorem aiE :∀{n:Nat}{t:I},cD n t v=true->(c4 t).length+8<=24*4 ^ n
 |0,_,h=>by cases h|n+1,t,h=>by
  have d:=tZ h;have g:=aGM d.2.1;have ar:1<=4 ^ n:=Nat.pow_pos dw;rw[ahq,Nat.pow_succ];split
  ·omega
  ·have j:=aGP (b:=24*4 ^ n-8) t.args λu f=>by have:=aiE (d.2.2.1 u f);omega
   have o:t.args.length*(24*4 ^ n-8+1)<=4*(24*4 ^ n-8+1):=aK7 _ d.1;simp only[aKF,aKH,List.length_nil];omega
theorem Dh(h:cD n t v=true)(d:n<=8):(c4 t).length<=M:=by
 have f:=aiE (yV h d);have:M=1099511627776:=rfl;have:(4:Nat) ^ 8=65536:=rfl;omega
theorem GF :∀(l:List I),(∀u∈l,(ck u).length<=b)->(bF l).length<=l.length*b
 |[],_=>by simp[bF]|t::r,h=>by
  have f:=h t (aKM ..);have g:=GF r λu d=>h u (aKL _ d);simp only[bF,aKH,aKF,Nat.add_mul,Nat.one_mul];omega
theorem GG :∀{n:Nat}{t:I},cD n t v=true->(ck t).length<=4 ^ n
 |0,_,h=>by cases h|n+1,t,h=>by
  have d:=tZ h;have ar:1<=4 ^ n:=Nat.pow_pos dw;rw[nJ,Nat.pow_succ];split
  ·grind
  ·have g:=GF (b:=4 ^ n) t.args λu f=>GG (d.2.2.1 u f);have j:t.args.length*4 ^ n<=4*4 ^ n:=aK7 _ d.1;omega
theorem RJ :∀{n:Nat}{t:I},cD n t v=true->∀{m:Nat},cc t<=m->cD m t v=true
 |0,_,h,_,_=>by cases h|n+1,t,h,m,hd=>by
  have g:=tZ h;rw[u4]at hd;obtain⟨m,rfl⟩:∃k,m=k+1:=⟨m-1,am⟩;rw[xb]at h ⊢;simp only[aKD,decide_eq_true_eq]at h ⊢;refine⟨h.1,?_⟩;by_cases d:t.args.length=0
  ·rw[if_pos d]at h ⊢;exact h.2
  ·rw[if_neg d]at h ⊢;simp only[aKD]at h ⊢;exact⟨aKI.2 λu f=>RJ (g.2.2.1 u f) (by have:=Av f;omega),h.2.2⟩
theorem aGQ:∀(t:I){n:Nat},gM t=false->iK t=false->cc t<=n->cD n t true=true:=I.ind λt ih n d f h=>by
 rw[Kn]at d;rw[QV]at f;rw[u4]at h;obtain⟨n,rfl⟩:∃k,n=k+1:=⟨n-1,am⟩;simp only[Bool.or_eq_false_iff,decide_eq_false_iff_not]at f;rw[xb];simp only[aKD,decide_eq_true_eq];refine⟨am,?_⟩;by_cases j:t.args.length=0
 ·grind
 ·rw[if_neg j]at d ⊢;simp only[Bool.or_eq_false_iff,Bool.not_eq_false']at d;simp only[aKD];refine⟨aKI.2 λu g=>ih u g ?_ ?_ (by have:=Av g;omega),d.1⟩
  ·grind
  ·grind
variable {h:Bool}
theorem RK(he:kj t h=0):cD 4 t true=true/\dM t.name=true:=by
 unfold kj at he;by_cases d:(!dM t.name||gM t)=true
 ·rw[if_pos d]at he;cases he
 ·rw[if_neg d]at he;simp only[aKV,not_or,Bool.not_eq_true,Bool.not_eq_false']at d;have f:iK t=false:=by grind
  by_cases hd:4<cc t
  ·grind
  ·exact⟨aGQ t d.2 f am,d.1⟩
theorem KU:∀{l:List I}{h:Bool},kG l h=0->∀a∈l,∃h,kj a h=0
 |[],_,_,a,aG=>by cases aG|t::r,h,he,a,aG=>by
  rw[kG]at he;split at he
  ·rename_i d;rcases aKW.1 aG with rfl|aG
   ·exact⟨_,d⟩
   ·exact KU he a aG
  omega
structure RV1(r:aU):Prop where
 b:r.body.length<=8
 a:∀a∈dx r,cD 4 a true=true/\dM a.name=true
 s:nL r=true
variable {r:aU}
theorem aiF(h:fK r=0):RV1 r:=by
 unfold fK at h;split at h
 ·cases h
 ·rename_i g;split at h
  ·omega
  ·rename_i d;split at h
   ·cases h
   ·split at h
    ·cases h
    ·rename_i f;refine⟨am,λa aG=>?_,nq⟩;obtain⟨_,q⟩:=KU mQ a aG;exact RK q
theorem aiG(v:ak):∀(l out:List ak),v∈l.foldl gL out↔v∈out\/(v∈l/\eg v=true)
 |[],out=>by simp|s::l,out=>by
  rw[aK4,aiG v l];unfold gL;cases d:eg s<;>cases f:out.contains s
  ·grind
  ·grind
  ·grind
  ·grind
theorem KV(l:List I)(v:ak):v∈hE l↔v∈bF l/\eg v=true:=by
 rw[hE,o5,aiG];simp
variable {v:ak}
theorem AT :v∈bF l↔∃t∈l,v∈ck t:=by rw[aDd,aKR]
theorem RV1.safe(h:RV1 r)(d:v∈ck r.head)(f:eg v=true):∃l∈r.body.filter dB,v∈ck l.atom:=by
 have ax:=h.s;unfold nL at ax;have g:=aKI.1 ax v ((KV _ _).2 ⟨AT.2 ⟨r.head,by simp[w3],d⟩,f⟩);have j:=(KV _ _).1 (aKX.1 g);obtain⟨t,o,p⟩:=AT.1 j.1;obtain⟨l,q,rfl⟩:=aKC.1 o;exact⟨l,q,p⟩
theorem RL :∀(σ d:List (ak×α))(v:ak),(getM σ v).isSome=true->(getM (σ++d) v).isSome=true
 |[],_,_,h=>by simp[getM]at h|(k,u)::r,d,v,h=>by
  simp only[getM,aKP]at h ⊢;by_cases f:v=k
  ·rw[if_pos f];rfl
  simp_all[RL]
theorem aiH{σ d:List α}(h:d.take σ.length=σ):∃cg,d=σ++cg:=⟨d.drop σ.length,by conv=>lhs;rw[<-List.take_append_drop σ.length d,h]⟩
theorem aiI{p g:I}(h:(getM σ v).isSome=true):(getM (eA p g σ).2 v).isSome=true:=by
 obtain⟨cg,d⟩:=aiH (Kz p g σ);rw[d];exact RL σ cg v h
theorem aGR{m:List I}(h:(getM σ v).isSome=true):(getM (gj l m σ).2 v).isSome=true:=by
 obtain⟨cg,d⟩:=aiH (Rq l m σ);rw[d];exact RL σ cg v h
mutual
theorem RM:∀(p g:I)(σ:Sub),(eA p g σ).1=true->∀v∈ck p,eg v=true->(getM (eA p g σ).2 v).isSome=true
 |.mk n [],g,σ,h,v,d,f=>by
  have:v=n:=by simpa[ck]using d
  subst this;have j:eJ (.mk v [])=true:=by simp[eJ,I.args,I.name,f]
  rw[eA,if_pos j];unfold mn;cases q:getM σ v with
  |some u=>simp only;rw[q];rfl|none=>simp_all[ahW]
 |.mk n (t::l),g,σ,h,v,d,f=>by
  have j:¬eJ (.mk n (t::l))=true:=by simp[eJ,I.args]
  rw[eA,if_neg j]at h ⊢;split at h
  ·cases h
  ·rename_i o;rw[if_neg o];have w:(t::l).length<=g.args.length:=by have:=λh=>o (.inr h);omega
   exact aiJ (t::l) g.args σ w h v (by simpa[ck,bF]using d) f
theorem aiJ:∀(l m:List I)(σ:Sub),l.length<=m.length->(gj l m σ).1=true->∀v∈bF l,eg v=true->(getM (gj l m σ).2 v).isSome=true
 |[],_,_,_,_,v,d,_=>by simp[bF]at d|_::_,[],_,f,_,_,_,_=>by simp at f|p::ps,g::gs,σ,f,h,v,d,j=>by
  rw[gj]at h ⊢;split at h
  ·rename_i hm;rw[if_pos hm];simp only[bF,aKE]at d;rcases d with d|d
   ·exact aGR (RM p g σ hm v d j)
   ·exact aiJ ps gs _ nq h v d j
  ·cases h
end
def pY(σ:Sub):Prop:=∀p∈σ,cD 4 p.2 false=true
theorem pY.get(h:pY σ)(d:getM σ v=some u):cD 4 u false=true:=by
 induction σ with
 |nil=>simp[getM]at d|cons p r ih =>
  obtain⟨k,w⟩:=p;simp only[getM]at d;split at d
  ·simp only[Option.some.injEq]at d;subst d;exact h (k,w) (aKM ..)
  ·exact ih (λp ar=>h p (aKL _ ar)) d
theorem aGS(h:pY σ)(v:ak)(d:cD 4 t false=true):pY (mn σ v t).2:=by
 unfold mn;cases getM σ v with
 |some u=>exact h|none =>
  intro p ar;rcases aKE.1 ar with ar|ar
  ·exact h p ar
  ·grind
mutual
theorem KW:∀(p g:I){σ:Sub},pY σ->cD 4 g false=true->pY (eA p g σ).2
 |.mk n l,g,σ,h,d=>by
  rw[eA];split
  ·exact aGS h _ d
  ·split
   ·exact h
   ·exact aiK l g.args h λu f=>yV ((tZ d).2.2.1 u f) am
theorem aiK:∀(l m:List I){σ:Sub},pY σ->(∀u∈m,cD 4 u false=true)->pY (gj l m σ).2
 |p::ps,g::gs,σ,h,hm=>by
  rw[gj];have d:=KW p g h (hm g (aKM ..));split
  ·exact aiK ps gs d λu f=>hm u (aKL _ f)
  ·exact d
 |[],_,σ,h,_=>by simpa[gj]using h|_::_,[],σ,h,_=>by simpa[gj]using h
end
mutual
theorem RN:∀(p g:I)(σ:Sub)(k:ak),k∈cd (eA p g σ).2->k∈cd σ\/k∈ck p
 |.mk n l,g,σ,k,h=>by
  rw[eA]at h;split at h
  ·rename_i j;have f:l=[]:=by simp_all[eJ,I.args]
   subst f;unfold mn at h;cases d:getM σ n with
   |some u=>rw[d]at h;exact .inl h|none =>
    rw[d]at h;simp only[Gt,aKE,aKG]at h;simp_all[ck]
  ·split at h
   ·exact .inl h
   ·rcases aiL l g.args σ k h with h|h
    ·exact .inl h
    ·refine .inr ?_;cases l with
     |nil=>simp[bF]at h|cons t r=>simpa[ck,bF]using h
theorem aiL:∀(l m:List I)(σ:Sub)(k:ak),k∈cd (gj l m σ).2->k∈cd σ\/k∈bF l
 |p::ps,g::gs,σ,k,h=>by
  rw[gj]at h;simp only[bF,aKE];split at h
  ·rcases aiL ps gs _ k h with h|h
   ·rcases RN p g σ k h with h|h
    ·exact .inl h
    ·exact .inr (.inl h)
   ·exact .inr (.inr h)
  ·rcases RN p g σ k h with h|h
   ·exact .inl h
   ·exact .inr (.inl h)
 |[],_,σ,k,h=>.inl (by simpa[gj]using h)|_::_,[],σ,k,h=>.inl (by simpa[gj]using h)
end
variable {v:Bool}
theorem Di(o:pY σ):∀{n:Nat}{p:I},cD n p true=true->(v=false->∀x∈ck p,eg x=true->(getM σ x).isSome=true)->cD (n+4) (eD σ p) v=true
 |0,_,h,_=>by cases h|n+1,p,h,ae=>by
  have g:=tZ h;rw[C7];by_cases f:eJ p=true
  ·rw[if_pos f];have q:p.args.length=0/\eg p.name=true:=by simpa[eJ]using f
   cases z:getM σ p.name with
   |some u =>
    have C:=o.get z;cases v with
    |false=>exact yV C am |true=>exact yV (RI C) am
   |none =>
    cases v with
    |false =>
     have:=ae rfl p.name (by rw[nJ,if_pos q.1];simp) q.2;rw[z]at this;cases this
    |true=>exact yV h am
  ·rw[if_neg f];by_cases d:p.args.length=0
   ·rw[if_pos d];cases v with
    |true=>exact yV h am |false =>
     have j:eg p.name=false:=by simpa[eJ,d]using f
     rw[xb]at h;rw[show n+1+4=(n+4)+1 by omega,xb];simp only[d,if_true,j,Bool.and_false,Bool.or_false]at h ⊢;exact h
   ·rw[if_neg d];have E:dM p.name=true:=g.2.2.2.2 d;have F:∀L:List I,cD (n+1+4) (.mk p.name L) v=(decide (L.length<=4)&&(if L.length=0 then dM p.name||(fw p.name).isSome||(v&&eg p.name)else L.all (λu=>cD (n+4) u v)&&dM p.name)):=λL=>by
     rw[show n+1+4=(n+4)+1 by omega];rfl
    rw[F];simp only[aKQ,d,if_false,E,Bool.and_true,aKD,decide_eq_true_eq];refine⟨g.1,aKI.2 λu G=>?_⟩;obtain⟨w,D,rfl⟩:=aKC.1 G;exact Di o (g.2.2.1 w D) λf x ah J=>ae f x (by rw[nJ,if_neg d];exact AT.2 ⟨w,D,ah⟩) J
def gX(S:List I):Prop:=∀a∈S,cD 4 a false=true
theorem aiM(ds:gX S)(j:RV1 r):∀(g:List Lit)(σ:Sub),pY σ->(∀v,eg v=true->(∃l∈r.body.filter dB,v∈ck l.atom)->(getM σ v).isSome=true\/∃l∈g,v∈ck l.atom)->∀dG,∀h∈h5 S dG r.head g σ,cD 8 h false=true
 |[],σ,o,ae,dG,h,d=>by
  rw[h5]at d;split at d
  ·rw[aKG]at d;subst d;refine Di (n:=4) o (j.a _ (by simp[dx])).1 λ_ x ah f=>?_;rcases ae x f (j.safe ah f)with h|⟨_,h,_⟩
   ·exact h
   ·cases h
  ·cases d
 |l::g,σ,o,ae,dG,h,d=>by
  rw[h5,aKR]at d;obtain⟨a,aG,d⟩:=d;split at d
  ·rename_i hm;refine aiM ds j g _ (KW _ _ o (ds a (KB aG))) (λv f z=>?_) dG h d;rcases ae v f z with q|⟨C,p,w⟩
   ·exact .inl (aiI q)
   ·rcases aKW.1 p with rfl|p
    ·exact .inl (RM _ _ _ hm v w f)
    ·exact .inr ⟨C,p,w⟩
  ·cases d
theorem aiN(ds:gX S)(d:RV1 r){h:I}(f:h∈nc S r):cD 8 h false=true :=
 aiM ds d _ [] (λ_ h=>d6) (λv j g=>.inr g) _ h f
def aGU(r:aU)(σ:Sub):Prop:=(cd σ).Nodup/\(∀k∈cd σ,k∈bF (dx r))/\pY σ
theorem RV1.leaves(h:RV1 r):(bF (dx r)).length<=2304:=by
 have g:=GF (b:=256) (dx r) λu d=>GG (n:=4) (h.a u d).1;have f:(dx r).length<=9:=by simp only[dx,aKH,aKQ];have:=h.b;omega
 have j:(dx r).length*256<=9*256:=aK7 _ f;omega
theorem KX{p:Lit->Bool}{l:Lit}(h:l∈r.body.filter p):l.atom∈dx r:=by
 simp only[dx,aKW,aKC];exact .inr ⟨l,(aKN.1 h).1,rfl⟩
theorem aiO(ds:gX S)(d:S.length<=100000)(f:RV1 r):Gz S (r.body.filter dB) (r.body.filter λl=>!dB l) r.head (λa=>cD 8 a true=true) (aGU r):=by
 have ae:=f.b;have g:∀p:Lit->Bool,(r.body.filter p).length<=100000:=λp=>by have:=aK6 p r.body;omega
 refine⟨λσ l a aE d aG hm=>⟨C8 _ _ aE.1,λk hk=>?_,KW _ _ aE.2.2 (ds a aG)⟩,λσ l aE d=>?_,λσ aE=>?_,λσ aE=>?_,λl d=>?_,λl d=>?_,?_,g _,g _,d⟩
 ·rcases RN _ _ _ k hk with h|h
  ·exact aE.2.1 k h
  ·exact AT.2 ⟨l.atom,KX d,h⟩
 ·exact Dh (Di (v:=true) aE.2.2 (f.a _ (KX d)).1 (λh=>d6)) am
 ·exact Di (v:=true) (n:=4) aE.2.2 (f.a _ (by simp[dx])).1 (λh=>d6)
 ·have j:=List.Nodup.length_le_of_subset aE.1 aE.2.1;have:=f.leaves;simp only[cd,aKQ]at j;omega
 ·have:=GG (n:=4) (f.a _ (KX d)).1;omega
 ·have:=GD (f.a _ (KX d)).1;omega
 ·have:=GD (f.a r.head (by simp[dx])).1;omega
variable {a:I}
theorem KY(ds:gX S)(aG:cD n a v=true):kI S a=true↔a∈S:=by
 rw[kI,aKJ];constructor
 ·rintro⟨b,ae,he⟩;rw[beq_iff_eq]at he;rw[<-RH (ua (ds b ae)) (ua aG) he];exact ae
 ·exact λh=>⟨a,h,be⟩
variable {h6:List I}
theorem aiP(h:∀a,a∈S↔a∈h6)(a:I):kI S a=kI h6 a:=by
 rw[aK3,kI,kI,aKJ,aKJ];exact⟨λ⟨b,ae,he⟩=>⟨b,(h b).1 ae,he⟩,λ⟨b,ae,he⟩=>⟨b,(h b).2 ae,he⟩⟩
theorem aGV(h:∀a,a∈S↔a∈h6)(σ:Sub)(l:Lit):o9 S σ l=o9 h6 σ l:=by
 unfold o9;rw[aiP h]
theorem RP(h:∀a,a∈S↔a∈h6)(dG:List Lit)(hd:I):∀(d:List Lit)(σ:Sub)(x:I),x∈h5 S dG hd d σ↔x∈h5 h6 dG hd d σ
 |[],σ,x=>by
  have:o9 S σ=o9 h6 σ:=funext λl=>aGV h σ l;rw[h5,h5,this]
 |l::d,σ,x=>by
  rw[h5,h5,aKR,aKR];have f:∀a,a∈jc S l.atom.name↔a∈jc h6 l.atom.name:=λa=>by simp only[jc,aKN,h a]
  constructor
  ·rintro⟨a,aG,ah⟩;refine⟨a,(f a).1 aG,?_⟩;split at ah
   ·rename_i hm;rw[if_pos hm];exact(RP h dG hd d _ x).1 ah
   ·cases ah
  ·rintro⟨a,aG,ah⟩;refine⟨a,(f a).2 aG,?_⟩;split at ah
   ·rename_i hm;rw[if_pos hm];exact(RP h dG hd d _ x).2 ah
   ·cases ah
theorem aGW(h:∀a,a∈S↔a∈h6)(r:aU)(x:I):x∈nc S r↔x∈nc h6 r:=RP h _ _ _ _ _
theorem GH :∀{n:Nat}{t:I},cD n t v=true->cc t<=n
 |0,_,h=>by cases h|n+1,t,h=>by
  have d:=tZ h;rw[u4];have:∀l:List I,(∀u∈l,cc u<=n)->ja l<=n:=λl=>by
   induction l with
   |nil=>intro _;simp[ja]|cons u r ih=>intro h;have j:=h u be;have o:=ih λw f=>h w (by simp[f]);simp only[ja];omega
  have:=this t.args λu g=>GH (d.2.2.1 u g);omega
structure qL(m:List (ak×I))(acc:List I):Prop where
 n:(cd m).Nodup
 g:∀s a,getM m s=some a->a∈acc/\c4 a=s
 s:∀a∈acc,(getM m (c4 a)).isSome=true
theorem qL.nil:qL [] []:=⟨.nil,λs a h=>d6,λa h=>d6⟩
theorem qL.put{acc:List I}(h:qL m acc)(a:I):qL (fV m (c4 a) a) (acc++[a]):=by
 refine⟨AE h.n _ _,λs b ae=>?_,λb ae=>?_⟩
 ·rw[w5]at ae;split at ae
  ·grind
  ·exact⟨List.mem_append_left _ (h.g s b ae).1,(h.g s b ae).2⟩
 ·rw[w5];split
  ·rfl
  ·rcases aKE.1 ae with ae|ae
   ·exact h.s b ae
   ·grind
def eB(l:List aU)(S:List I):List I:=l.flatMap (nc S)
structure vg(m:List (ak×I))(ax S:List I):Prop where
 n:(cd m).Nodup
 g:∀s a,getM m s=some a->a∈ax/\c4 a=s/\kI S a=false
 s:∀a∈ax,kI S a=false->(getM m (c4 a)).isSome=true
structure qM(km m1:List (ak×I))(ks:List ak)(m:List (ak×I)):Prop where
 o8:ks.Nodup
 Dj:∀s∈ks,s∈cd m1
 n:(cd m).Nodup
 g:∀s,getM m s=if s∈ks/\(getM km s).isSome=true then none else getM m1 s
variable {m1:List (ak×I)}
theorem qM.start(h:(cd m1).Nodup):qM km m1 [] m1:=⟨.nil,λs h=>d6,h,λs=>be⟩
theorem qM.len(h:qM km m1 ks m):ks.length<=m1.length:=by
 have:=List.Nodup.length_le_of_subset h.o8 h.Dj;simpa[cd]using this
variable {q:ak}
theorem qM.RQ(h:qM km m1 ks m)(ar:(q,a)∈m)(f:q∉ks)(hk:getM km q=none):qM km m1 (ks++[q]) m:=by
 have o:=(sE h.n).2 ar;have d:=h.g q;rw[if_neg (λe=>f e.1),o]at d;refine⟨?_,λs ax=>?_,h.n,λs=>?_⟩
 ·rw[aKU];exact⟨h.o8,be,λx ah y g=>by rw[aKG]at g;rw[g];grind⟩
 ·rcases aKE.1 ax with ax|ax
  ·exact h.Dj s ax
  ·rw[aKG]at ax;rw[ax];by_cases j:q∈cd m1
   ·exact j
   ·rw[getM_none.2 j]at d;cases d
 ·rw[h.g];by_cases ax:s=q
  ·subst ax;simp[f,hk]
  ·simp[ax]
theorem qM.del(h:qM km m1 ks m)(ar:(q,a)∈m)(j:q∉ks)(hk:getM km q=some u):qM km m1 (ks++[q]) (mm m q):=by
 have o:=(sE h.n).2 ar;have d:=h.g q;rw[if_neg (λe=>j e.1),o]at d;refine⟨?_,λs ax=>?_,QX h.n _,λs=>?_⟩
 ·rw[aKU];exact⟨h.o8,be,λx ah y f=>by rw[aKG]at f;rw[f];grind⟩
 ·rcases aKE.1 ax with ax|ax
  ·exact h.Dj s ax
  ·rw[aKG]at ax;rw[ax];by_cases g:q∈cd m1
   ·exact g
   ·rw[getM_none.2 g]at d;cases d
 ·rw[QY h.n,h.g];by_cases ax:s=q
  ·subst ax;simp[hk]
  ·simp[ax]
theorem qM.done(h:qM km m1 ks m)(he:m.filter (λp=>!ks.contains p.1)=[]){ax:List I}(j:jN km bu S)(hm:qL m1 ax):vg m ax S:=by
 have x:∀s a,getM m s=some a->s∈ks:=λs a f=>by
  have ar:=(sE h.n).1 f;cases g:ks.contains s with
  |true=>exact aKX.1 g|false =>
   have:(s,a)∈m.filter (λp=>!ks.contains p.1):=aKN.2 ⟨ar,by simp only[g];rfl⟩;rw[he]at this;cases this
 refine⟨h.n,λs a f=>?_,λa aG o=>?_⟩
 ·have hk:=x s a f;have d:=h.g s;rw[f]at d;split at d
  ·cases d
  ·rename_i g;obtain⟨z,w⟩:=hm.g s a d.symm;refine⟨z,w,?_⟩;rw[<-j.has,w];cases ah:(getM km s).isSome with
   |false=>rfl|true=>exact absurd ⟨hk,ah⟩ g
 ·have d:=h.g (c4 a);rw[<-j.has]at o;rw[if_neg (by rw[o];simp)]at d;rw[d];exact hm.s a aG
def jR(l:List I):Bool:=l.any λa=>decide (4<cc a)
def kZ(l:List aU)(A:List I):List I:=(eB l A).filter λa=>!kI A a
def xe:Nat->List aU->List I->Option (Nat×List I)
 |0,_,_=>none|f+1,l,A=>if jR (eB l A)=true then some (3,A)
  else if kZ l A=[]then some (0,A)
  else if 100000<(fx (A++kZ l A)).length then none
  else if 512<(fx (A++kZ l A)).length then some (11,fx (A++kZ l A))
  else xe f l (fx (A++kZ l A))
theorem RS(h:∀a,a∈S↔a∈h6)(l:List aU)(x:I):x∈eB l S↔x∈eB l h6:=by
 simp only[eB,aKR,aGW h]
theorem aiR{m:List I}(h:∀a,a∈l↔a∈m):jR l=jR m:=by
 rw[jR,jR,aK3,aKJ,aKJ];exact⟨λ⟨a,aG,hd⟩=>⟨a,(h a).1 aG,hd⟩,λ⟨a,aG,hd⟩=>⟨a,(h a).2 aG,hd⟩⟩
variable {l:List aU}{A:List I}
theorem ub{x:I}:x∈kZ l A↔x∈eB l A/\kI A x=false:=by
 rw[kZ,aKN];simp
theorem RT(h:∀a,a∈S↔a∈h6)(l:List aU)(x:I):x∈kZ l S↔x∈kZ l h6:=by
 rw[ub,ub,RS h,aiP h]
theorem aG1{l m:List I}(h:∀a,a∈l↔a∈m):l=[]↔m=[]:=by
 simp_all[aK8]
theorem qL.more:∀(l:List I){m:List (ak×I)}{acc:List I},qL m acc->∃d,qL d (acc++l)
 |[],m,acc,h=>⟨m,by rw[List.append_nil];exact h⟩|a::l,m,acc,h=>by
  obtain⟨d,f⟩:=qL.more l (h.put a);exact⟨d,by rw[aKS]at f;exact f⟩
theorem vg.ex(l:List aU)(S:List I):∃m,vg m (eB l S) S:=by
 obtain⟨m,h⟩:=qL.more (m:=[]) (acc:=[]) (kZ l S) qL.nil;rw[List.nil_append]at h;exact⟨m,h.n,λs a d=>⟨(ub.1 (h.g s a d).1).1,(h.g s a d).2,(ub.1 (h.g s a d).1).2⟩,λa aG f=>h.s a (ub.2 ⟨aG,f⟩)⟩
theorem vg.nil(h:vg m (eB l S) S):m.length=0↔kZ l S=[]:=by
 constructor
 ·intro d;rw[List.length_eq_zero_iff]at d;subst d;refine aK8.2 λa aG=>?_;have:=ub.1 aG;have:=h.s a this.1 this.2;simp[getM]at this
 ·intro d;rw[List.length_eq_zero_iff];refine aK8.2 λp ar=>?_;obtain⟨s,a⟩:=p;have:=h.g s a ((sE h.n).2 ar);have hm:a∈kZ l S:=ub.2 ⟨this.1,this.2.2⟩;rw[d]at hm;cases hm
theorem aiS(h:(L.map c4).Nodup):L.Nodup:=by
 rw[aK9]at h ⊢;exact(List.pairwise_map.1 h).imp λcG he=>cG (by rw[he])
theorem K1(h:jo L):L.Nodup:=h.imp λ{a b}d he=>by
 simp_all[CZ]
theorem aiT{d:List I}(f:L.Nodup)(g:d.Nodup)(h:∀a,a∈L↔a∈d):L.length=d.length :=
 Nat.le_antisymm (List.Nodup.length_le_of_subset f λa aG=>(h a).1 aG) (List.Nodup.length_le_of_subset g λa aG=>(h a).2 aG)
theorem Dm(d:∀r∈l,RV1 r)(ds:gX S)(hd:jR (eB l S)=false)(aG:a∈eB l S):cD 4 a false=true:=by
 obtain⟨r,f,g⟩:=aKR.1 aG;refine RJ (aiN ds (d r f) g) ?_;rw[jR,List.any_eq_false]at hd;have:=hd a aG;simpa using this
structure vh(l:List aU)(S:List I)(m:List (ak×I))(ks:List ak)(hU:List I):Prop where
 o8:ks.Nodup
 Dj:∀s∈ks,s∈cd m
 v:gX hU
 m:∀a,a∈hU↔a∈S\/(a∈kZ l S/\c4 a∈ks)
 t:(hU.map c4).Nodup
variable {hU:List I}
theorem vh.len(h:vh l S m ks hU):ks.length<=m.length:=by
 have:=List.Nodup.length_le_of_subset h.o8 h.Dj;simpa[cd]using this
theorem vh.eS(h:vh l S m ks hU)(cE:∀a,a∈S↔a∈A):hU.length<=(fx (A++kZ l A)).length:=by
 refine List.Nodup.length_le_of_subset (aiS h.t) λa aG=>?_;rw[rI,aKE];rcases(h.m a).1 aG with h|h
 ·exact .inl ((cE a).1 h)
 ·exact .inr ((RT cE l a).1 h.1)
theorem vh.step(f:∀r∈l,RV1 r)(ds:gX S)(hd:jR (eB l S)=false)(g:vg m (eB l S) S)(h:vh l S m ks hU)(ar:(q,a)∈m)(w:q∉ks)
  (z:((kJ hU a).map c4).Nodup):vh l S m (ks++[q]) (kJ hU a):=by
 obtain⟨j,C,D⟩:=g.g q a ((sE g.n).2 ar);have d:=Dm f ds hd j;have E:a∈kZ l S:=ub.2 ⟨j,D⟩;have hm:∀b,b∈kJ hU a↔b∈hU\/b=a:=λb=>by
  unfold kJ;split
  ·rename_i o;rw[KY h.v d]at o;exact⟨.inl,λe=>e.elim id λe=>e▸o⟩
  ·simp
 refine⟨?_,λs ax=>?_,λb ae=>?_,λb=>?_,z⟩
 ·rw[aKU];exact⟨h.o8,be,λx ah y p=>by rw[aKG]at p;rw[p];exact λe=>w (e▸ah)⟩
 ·rcases aKE.1 ax with ax|ax
  ·exact h.Dj s ax
  ·rw[aKG]at ax;rw[ax];exact aKC.2 ⟨_,ar,rfl⟩
 ·rcases(hm b).1 ae with ae|rfl
  ·exact h.v b ae
  ·exact d
 ·rw[hm,h.m];constructor
  ·grind
  ·rintro(ae|⟨ae,hk⟩)
   ·exact .inl (.inl ae)
   ·rcases aKE.1 hk with hk|hk
    ·exact .inl (.inr ⟨ae,hk⟩)
    ·rw[aKG]at hk;refine .inr (RH (ua (Dm f ds hd (ub.1 ae).1)) (ua d) (by rw[hk,C]))
theorem vh.done(d:vg m (eB l S) S)(h:vh l S m ks hU)(cE:∀a,a∈S↔a∈A)(he:m.filter (λp=>!ks.contains p.1)=[]):(∀a,a∈hU↔a∈fx (A++kZ l A))/\hU.length=(fx (A++kZ l A)).length:=by
 have hm:∀a,a∈hU↔a∈fx (A++kZ l A):=λa=>by
  rw[h.m,rI,aKE,<-cE,<-RT cE];constructor
  ·grind
  ·rintro(h|h)
   ·exact .inl h
   ·refine .inr ⟨h,?_⟩;have f:=ub.1 h;obtain⟨c,g⟩:=Option.isSome_iff_exists.1 (d.s a f.1 f.2);have ar:=(sE d.n).1 g;cases hk:ks.contains (c4 a)with
    |true=>exact aKX.1 hk|false =>
     have:(c4 a,c)∈m.filter (λp=>!ks.contains p.1):=aKN.2 ⟨ar,by simp only[hk];rfl⟩;rw[he]at this;cases this
 exact⟨hm,aiT (aiS h.t) (K1 (wZ _)) hm⟩
open Enc (enc)
theorem aA.of_heap{P:Program}{gl:cQ}{f:Nat}{k:Int}{xs:List AV}(Q:ko P e 2=true)
  (R:bB P gl f xs [] λE H'=>bx E (.bg [enc S,.int .i64 k])\/∃id,E=.bg [.bI id 0 S.length 2,.int .i64 k]/\H'[id]?=some (.buf e (c3 S))/\S.length<=M)(ah:xs.all AV.arg=true):aA P gl f xs (.bg [enc S,.int .i64 k]):=by
 intro γ w vs T V X;let g:bD:=⟨γ,λb=>if b<w.heap.size then .outer else .none,λ_=>none⟩
 have j:Rel P gl 0 g (l9 []) tu w :=
  ⟨.nil,rfl,rfl,λt e he=>kE,λid bM Y=>by simp[l9]at Y,T,λb ae=>by
   by_cases h:b<w.heap.size
   ·exact h
   ·simp[g,h]at ae,V,λid b h=>d6⟩
 have Z:∀x∈xs,cY x:=λx oT=>E0 (aKI.1 ah x oT);refine(R.2 g w vs j (X.zX ah g rfl) (λi x v h _=>(Z x (List.mem_of_getElem? h)).gG)).mono ?_;rintro cB w' ⟨v,r',H',g',rfl,z,d,F,G,_⟩;have J:∀b,b<w.heap.size->g'.bO b=.outer/\w'.heap[b]?=w.heap[b]?/\∀o,g'.γ b o=g.γ b o:=λb ae=>d.outer b (by simp[g,ae]);have K:cY (.bg [enc S,.int .i64 k]):=λ_ _ _ h=>by cases h
 rcases z with z|⟨id,rfl,bW,ds⟩
 ·exact⟨v,g'.γ,rfl,d.γ,d.size,λb ae=>(J b ae).2,⟨d.os,d.out⟩,F.fI,(z _ _ G).EZ rfl _ rfl,K.gG⟩
 ·cases G with
  |pure _ _ h=>cases h|bg _ ws h =>
   cases h with
   |cons _ _ v1 ws h1 ab =>
    have O:(c3 S).take (S.length*2)=c3 S:=aKZ (by rw[ll];omega);obtain⟨p,C,t2,t3,_⟩:=NA F h1 bW Q (by rw[ll];exact aKK _) (by rw[O,C2];exact Gc S) ds .outer;have D:∀b,b<w.heap.size->p.bO b=.outer/\w'.heap[b]?=w.heap[b]?/\∀o,p.γ b o=g.γ b o:=λb ae=>by
     obtain⟨aj,av,aQ⟩:=J b ae;obtain⟨aP,aV,bP⟩:=C.outer b aj;exact⟨aP,av,λo=>(bP o).trans (aQ o)⟩
    rw[O]at t3;refine⟨_,p.γ,rfl,λb o v h=>C.γ _ _ _ (d.γ _ _ _ h),d.size,λb ae=>(D b ae).2,⟨d.os,d.out⟩,t2.fI,?_,K.gG⟩;refine bn.EZ (g:=p) (.bg _ _ (.cons _ _ _ _ (.pure _ _ ?_) (ab.mono C.toGhLe))) rfl _ rfl;have aH:(enc S:AV)=.list none 2 (S.map I.enc):=rfl;rw[aH];have aR:chunk 2 S.length ((c3 S).map AV.a1)=S.map I.enc:=by
     rw[C2];exact Gd S
    rw[<-aR];exact t3
instance:Inhabited aU:=⟨⟨default,[]⟩⟩
def xf(s:ak):List ak->List ak
 |[]=>[s]|t::r=>if s=t then t::r else if Op.bytesLess s t then s::t::r else t::xf s r
def uc(l:List aU):List ak:=(l.flatMap λr=>r.head.name::r.body.map λx=>x.atom.name).filter λs=>!(s==eG)
def il(l:List aU):List ak:=(uc l).foldl (λacc s=>xf s acc) []
def lP(a b:bR):Int :=
 if du a.src b.src≠0 then du a.src b.src else if du a.dst b.dst≠0 then du a.dst b.dst else if a.neg=b.neg then 0 else if b.neg then -1 else 1
def xg(x:bR):List bR->List bR
 |[]=>[x]|t::r=>if lP x t=0 then t::r else if lP x t<0 then x::t::r else t::xg x r
def lp(l:List aU):List bR:=(l.filter λr=>!(r.head.name==eG)).flatMap λr=>(r.body.filter λx=>!(x.atom.name==eG)).map λx=>⟨r.head.name,x.atom.name,x.neg⟩
def mv(l:List aU):List bR:=(lp l).foldl (λacc x=>xg x acc) []
def mw(lev:List (ak×Int))(s:ak):Int:=(getM lev s).getD 0
def AY(lev:List (ak×Int))(e:bR):Int:=mw lev e.dst+if e.neg then 1 else 0
def p0(n:Int):List bR->List (ak×Int)->Bool->Option (List (ak×Int)×Bool)
 |[],lev,ch=>some (lev,ch)|e::r,lev,ch=>if mw lev e.src<AY lev e then(if AY lev e>=n then none else p0 n r (fV lev e.src (AY lev e)) true)else p0 n r lev ch
def ud(n:Int)(es:List bR):Nat->List (ak×Int)->Option (Option (List (ak×Int)))
 |0,_=>none|f+1,lev=>match p0 n es lev false with
  |none=>some none|some (kL,true)=>ud n es f kL|some (kL,false)=>some (some kL)
def AZ(l:List aU):Option (List (ak×Int)):=((ud (il l).length (mv l) ((il l).length*(il l).length+2) []).getD none).map λlev=>(il l).map λs=>(s,mw lev s)
def p1(levels:List (ak×Int))(s:ak):Int:=(getM levels s).getD (-1)
def xh(levels:List (ak×Int)):Int:=levels.foldl (λm p=>max m p.2) (-1)
def oC(l:List aU):List (List Nat)×Nat:=match AZ l with
 |none=>([],10)|some levels=>((List.range (xh levels+1).toNat).map λn:Nat=>(List.range l.length).filter λi=>p1 levels l[i]!.head.name==(n:Int),0)
variable {row:List Nat}
theorem aG7(h:row∈(oC l).1)(hk:k∈row):k<l.length:=by
 unfold oC at h;split at h
 ·cases h
 ·grind
def qO(i:Nat):AV:=.int .i64 (i:Int)
def ue(row:List Nat):AV:=.list none 1 (row.map qO)
def hG(l:List aU):Nat:=if 128<l.length then 2 else((l.find? λr=>!(fK r==0)).map fK).getD 0
def A0(a:I):Bool:=(a.name==[116,114,117,101]&&decide (a.args.length=1)||a.name==[100,111,101,115]&&decide (a.args.length=2))&&cD 4 a false
def rO(l:List I):Bool:=decide (l.length<=512)&&l.all A0
def GJ(l:List aU):List (List Nat)->List I->Option (List I×Nat)
 |[],A=>some (A,0)|row::rs,A=>match xe 600 (row.map (l[·]!)) A with
  |none=>none|some (e,A')=>if e=0 then GJ l rs A' else some ([],e)
def iz(l:List aU)(atoms:List I):Option (List I×Nat) :=
 if hG l≠0 then some ([],hG l)
 else if(oC l).2≠0 then some ([],(oC l).2)
 else if !rO atoms then some ([],13)
 else GJ l (oC l).1 (fx atoms)
theorem xi(h:hG l=0):l.length<=128/\∀r∈l,RV1 r:=by
 unfold hG at h;split at h
 ·cases h
 ·refine⟨am,λr d=>aiF ?_⟩;cases f:l.find? λr=>!(fK r==0)with
  |none=>grind|some s=>grind
theorem RX(d:∀r∈l,RV1 r):∀{f:Nat}{A A':List I}{e:Nat},jo A->gX A->A.length<=100000->xe f l A=some (e,A')->e=0->jo A'/\gX A'/\A'.length<=100000
 |0,_,_,_,_,_,_,h,_=>by cases h|f+1,A,A',e,h1,g,j,h,he=>by
  rw[xe]at h;split at h
  ·grind
  ·rename_i hd;split at h
   ·grind
   ·split at h
    ·cases h
    ·rename_i ae;split at h
     ·grind
     ·refine RX d (wZ _) (λa aG=>?_) am h he;rw[rI,aKE]at aG;rcases aG with aG|aG
      ·exact g a aG
      ·exact Dm d g (by simpa using hd) (ub.1 aG).1
theorem jN.more:∀(L:List I){km:List (ak×I)}{bu:List (ak×List I)}{S:List I},jN km bu S->((S++L).map c4).Nodup->∃d f,jN d f (S++L)
 |[],km,bu,S,h,_=>⟨km,bu,by rw[List.append_nil];exact h⟩|a::L,km,bu,S,h,g=>by
  have aG:kI S a=false:=by
   rw[Bool.eq_false_iff];intro j;rw[kI,aKJ]at j;obtain⟨b,ae,he⟩:=j;rw[aKY,aKU]at g;exact g.2.2 (c4 b) (aKC.2 ⟨b,ae,rfl⟩) (c4 a) be (beq_iff_eq.1 he)
  obtain⟨d,f,o⟩:=jN.more L (h.add aG) (by rw[aKS];exact g);exact⟨d,f,by rw[aKS]at o;exact o⟩
theorem aG8(d:A.Nodup)(f:gX A):(A.map c4).Nodup:=by
 rw[aK9,List.pairwise_map];rw[aK9]at d;have:∀{L:List I},(∀a∈L,a∈A)->L.Pairwise (·≠·)->L.Pairwise λa b=>c4 a≠c4 b:=λ{L}cf ar=>by
  induction L with
  |nil=>exact .nil|cons a r ih =>
   rw[List.pairwise_cons]at ar ⊢;exact⟨λb ae he=>ar.1 b ae (RH (ua (f a (cf a be))) (ua (f b (cf b (by simp[ae])))) he),ih (λb ae=>cf b (by simp[ae])) ar.2⟩
 exact this (λa h=>h) d
theorem gV.ex{x:Nat}(h:gV e H x k b S)(j:(h6.map c4).Nodup):∃H',gV e H' x k b h6/\H'.length=H.length/\∀i,i≠k->i≠b->H'[i]?=H[i]?:=by
 obtain⟨n,m,km,bu,aE,C⟩:=h;obtain⟨d,f,g⟩:=jN.more h6 jN.nil (by simpa using j);rw[List.nil_append]at g;have o:=dq aE.hk;have p:=dq aE.ae
 refine⟨(H.set k (.map 0 (cI I.enc d))).set b (.map 0 (cI (lO e) f)),⟨0,0,d,f,⟨?_,?_,?_,aE.cG⟩,g⟩,be,λi w z=>by rw[cj (Ne.symm z),cj (Ne.symm w)]⟩
 ·rw[cj (Ne.symm aE.Rf),cj (Ne.symm aE.Re)];exact aE.ah
 ·rw[cj (Ne.symm aE.cG),dV o]
 ·rw[dV (by simpa using p)]
theorem aG9(h:A0 a=true):cD 4 a false=true:=by
 simp only[A0,aKD]at h;exact h.2
theorem aHa{l:List I}(h:rO l=true):l.length<=512/\∀a∈l,cD 4 a false=true:=by
 simp only[rO,aKD,decide_eq_true_eq]at h;exact⟨h.1,λa aG=>aG9 (aKI.1 h.2 a aG)⟩
theorem aiY(ds:gX S)(aG:cD 4 a false=true)(b:I):b∈kJ S a↔b∈S\/b=a:=by
 unfold kJ;split
 ·rename_i d;rw[KY ds aG]at d;simp_all
 ·simp
theorem aiZ(S:List I)(a:I):(kJ S a).length<=S.length+1:=by unfold kJ;split<;>simp
theorem K4{n:Int}:∀{es:List bR}{lev f:List (ak×Int)}{ch j:Bool},p0 n es lev ch=some (f,j)->(∀s v,getM lev s=some v->v<n)->∀s v,getM f s=some v->v<n
 |[],lev,f,ch,j,h,g,s,v,d=>by
  simp only[p0,Option.some.injEq,Prod.mk.injEq]at h;obtain⟨rfl,_⟩:=h;exact g s v d
 |e::r,lev,f,ch,j,h,g,s,v,d=>by
  rw[p0]at h;split at h
  ·split at h
   ·cases h
   ·rename_i o;refine K4 h (λs v d=>?_) s v d;rw[w5]at d;split at d
    ·simp only[Option.some.injEq]at d;omega
    ·exact g s v d
  ·exact K4 h g s v d
theorem ai0{n:Int}{es:List bR}:∀{f:Nat}{lev d:List (ak×Int)},ud n es f lev=some (some d)->(∀s v,getM lev s=some v->v<n)->∀s v,getM d s=some v->v<n
 |0,_,_,h,_,_,_,_=>by cases h|f+1,lev,d,h,g,s,v,j=>by
  rw[ud]at h;split at h
  ·cases h
  ·rename_i ar;exact ai0 h (K4 ar g) s v j
  ·rename_i ar;simp only[Option.some.injEq]at h;subst h;exact K4 ar g s v j
theorem ai1(s:ak):∀l:List ak,(xf s l).length<=l.length+1
 |[]=>by simp[xf]|t::r=>by
  have:=ai1 s r;rw[xf];split
  ·simp
  ·grind
theorem ai2:∀(m l:List ak),(m.foldl (λacc s=>xf s acc) l).length<=l.length+m.length
 |[],l=>by simp|s::m,l=>by
  rw[aK4];have:=ai2 m (xf s l);have:=ai1 s l;simp only[aKH];omega
theorem GK{β:Type}{f:α->List β} :∀(l:List α),(∀x∈l,(f x).length<=b)->(l.flatMap f).length<=l.length*b
 |[],_=>by simp|x::r,h=>by
  have g:=h x (aKM ..);have j:=GK r λy d=>h y (aKL _ d);simp only[List.flatMap_cons,aKF,aKH,Nat.add_mul,Nat.one_mul];omega
theorem RY(h:∀r∈l,r.body.length<=8):(il l).length<=l.length*9:=by
 have d:=ai2 (uc l) [];have g:(uc l).length<=l.length*9:=Nat.le_trans (aK6 _ _) (GK l λr f=>by have:=h r f;simp only[aKH,aKQ];omega);simp only[List.length_nil]at d;unfold il;omega
theorem ai3{b:Int}:∀(d:List (ak×Int))(m:Int),m<=b->(∀p∈d,p.2<=b)->d.foldl (λm p=>max m p.2) m<=b
 |[],m,h,_=>h|p::r,m,h,ar=>by
  rw[aK4];have:=ar p (aKM ..);exact ai3 r _ am λq f=>ar q (aKL _ f)
theorem ai4(D:l.length<=128)(x:∀r∈l,r.body.length<=8):(oC l).1.length<=100000:=by
 have E:=RY x;unfold oC;split
 ·simp
 ·rename_i d g;have hm:xh d<=1152:=by
   unfold AZ at g;rw[Option.map_eq_some_iff]at g;obtain⟨j,f,rfl⟩:=g;cases w:ud (il l).length (mv l) ((il l).length*(il l).length+2) []with
   |none=>rw[w]at f;cases f|some o =>
    rw[w]at f;simp only[Option.getD_some]at f;subst f;have z:=ai0 w (λs v h=>d6);refine ai3 _ _ am λp ar=>?_;obtain⟨s,_,rfl⟩:=aKC.1 ar;simp only[mw];cases C:getM j s with
    |none=>simp|some v=>have:=z s v C;simp only[Option.getD_some];omega
  simp only[aKQ,List.length_range];omega
theorem aHb(h:row∈(oC l).1):row.length<=l.length:=by
 unfold oC at h;split at h
 ·cases h
 ·grind
theorem Dr:∀{l m:List I},l.Sublist m->(bF l).length<=(bF m).length
 |_,_,.slnil=>aKK _|_,_,.cons a h=>by have:=Dr h;simp only[bF,aKF];omega|_,_,.cons_cons a h=>by have:=Dr h;simp only[bF,aKF];omega
theorem aHc(r:aU):(bF (w3 r)).length<=(bF (dx r)).length:=Dr (List.Sublist.cons_cons _ (List.filter_sublist.map _))
theorem aHd(r:aU):(bF (AB r)).length<=(bF (dx r)).length:=Dr (List.Sublist.cons _ (List.filter_sublist.map _))
theorem GL:∀(l out:List ak),(l.foldl gL out).length<=out.length+l.length
 |[],out=>by simp|s::l,out=>by
  rw[aK4];have d:=GL l (gL out s);have f:(gL out s).length<=out.length+1:=by unfold gL;split<;>simp
  simp only[aKH];omega
theorem Ds(l:List I):(hE l).length<=(bF l).length:=by have:=GL (bF l) [];simpa[hE,o5]using this
theorem ai5(he:kj t h=0)(d:t.name=w2):t.args.length=1:=by
 unfold kj at he;have hk:ln t.name=some ⟨w2,1,true,true⟩:=by rw[d];rfl
 rw[hk]at he;by_cases f:t.args.length=1
 ·exact f
 ·grind
open Enc (enc)
def im:List ak->List AV
 |[]=>[]|s::r=>.str s::im r
theorem GP:∀l:List ak,(im l).length=l.length
 |[]=>rfl|s::r=>by simp only[im,aKH,GP r]
def xk(e:Nat)(H:List ay)(id:Nat)(l:List ak):List ay:=H.set id (.buf e (im l))
theorem Sc{l:List ak}(h:id<H.length):(xk e H id l)[id]?=some (.buf e (im l)):=by simp[xk,h]
def fW:List bR->List AV
 |[]=>[]|x::r=>.str x.src::.str x.dst::.bool x.neg::fW r
theorem Dx:∀l:List bR,(fW l).length=l.length*3
 |[]=>rfl|t::r=>by simp only[fW,aKH,Dx r];omega
def xl(e:Nat)(H:List ay)(id:Nat)(l:List bR):List ay:=H.set id (.buf e (fW l))
theorem Sd{l:List bR}(h:id<H.length):(xl e H id l)[id]?=some (.buf e (fW l)):=by simp[xl,h]
attribute [go_sem] Sc Sd Nat.mul_one
abbrev ng(a b:ak):Bool:=Op.bytesLess a b
abbrev p3(a b:bR):Bool:=decide (lP a b<0)
section
variable {α:Type}[Inhabited α]{lt:α->α->Bool}
theorem ajh(l:List α)(i:Nat):l.toArray[i]! = l[i]!:=by simp
end
structure Se where
 n:Nat
instance:Enc Se where
 sz:=1
 enc a:=.int .u64 a.n
 arg _:=rfl
 can _:=by simp only[AV.can]
 inj a b h:=by cases a;cases b;simp only[AV.int.injEq,true_and]at h;simp only[Se.mk.injEq];omega
 cl _:=rfl
 eS _:=True
 om _:=trivial
 lj _:=trivial
theorem aHP(n:Nat):Enc.enc (Se.mk n)=.int .u64 n:=rfl
attribute [go_sem] aHP
theorem aji{c:α->α->Int}(g:∀a b,c b a = - c a b)(j:∀a b,c a b=0->a=b)(o:∀a b d,c a b<0->c b d<0->c a d<0):Sort.SWO λa b=>decide (c a b<0) where
 irrefl x:=by grind
 trans x y z h1 f:=by grind
 ntrans x y z h1 f:=by grind
theorem ajj(a b:ak):ng a b=decide (du a b<0):=by
 rw[CN];by_cases d:Op.bytesLess a b=true
 ·rw[if_pos d];exact d
 ·grind
theorem GQ:Sort.SWO ng:=by
 have:ng=λa b=>decide (du a b<0):=by funext a b;exact ajj a b
 rw[this];exact aji CY (λa b=>mY.1) F2
theorem ajk(a:ak):du a a=0:=mY.2 rfl
theorem Sf(a b:bR):lP b a = - lP a b:=by
 obtain⟨s,d,n⟩:=a;obtain⟨f,g,o⟩:=b;unfold lP;simp only;rw[CY s f,CY d g];by_cases j:du s f=0
 ·grind
 ·simp[j]
theorem La{a b:bR}(h:lP a b=0):a=b:=by
 obtain⟨s,d,n⟩:=a;obtain⟨w,x,f⟩:=b;unfold lP at h;simp only at h;split at h
 ·omega
 ·split at h
  ·omega
  ·rename_i g j;have o:=mY.1 (Decidable.not_not.1 g);have p:=mY.1 (Decidable.not_not.1 j);subst o p;cases n<;>cases f<;>simp_all
theorem ajl(a:bR):lP a a=0:=by have:=Sf a a;omega
theorem aHQ(a b c:bR)(g:lP a b<0)(f:lP b c<0):lP a c<0:=by
 obtain⟨s,d,n⟩:=a;obtain⟨j,o,J⟩:=b;obtain⟨x,z,G⟩:=c;unfold lP at *;simp only at *;by_cases C:s=j
 ·subst C;rw[if_neg (by rw[ajk];omega)]at g;by_cases p:du s x=0
  ·rw[if_neg am]at f ⊢;by_cases D:d=o
   ·subst D;rw[if_neg (by rw[ajk];omega)]at g;by_cases w:du d z=0
    ·grind
    ·rw[if_pos w]at f ⊢;exact f
   ·have E:du d o≠0:=λh=>D (mY.1 h);rw[if_pos E]at g;by_cases w:du o z=0
    ·have:=mY.1 w;subst this;rw[if_pos E];exact g
    ·rw[if_pos w]at f;have:=F2 d o z g f;rw[if_pos am];exact this
  ·rw[if_pos p]at f ⊢;exact f
 ·have F:du s j≠0:=λh=>C (mY.1 h);rw[if_pos F]at g;by_cases p:du j x=0
  ·have:=mY.1 p;subst this;rw[if_pos F];exact g
  ·rw[if_pos p]at f;have:=F2 s j x g f;rw[if_pos am];exact this
theorem A2:Sort.SWO p3:=aji Sf (λa b=>La) aHQ
theorem ajm{P:Program}{gl:cQ}{f:Nat}{vs:List AV}{G:List ay}{r:AV}{F:List ay->List ay}{K:AV->List ay->Prop}{tg:aN K}(h:bB P gl f vs G λr' H'=>r'=r/\∃y,H'=F y)(hk:∀y,K r (F y)):mZ P gl f vs G K tg :=
 iJ ⟨h,r,F [],rfl,[],rfl⟩ (by grind)
theorem toA(d:Array α):∃l:List α,d=l.toArray:=⟨d.toList,be⟩
open Go Go.Proofs
section
variable {P:Program}{gl:cQ}{N:Nat}{g:bD}{s:au}{a:Act}{w w':World}
theorem Rel.ajn(h:Rel P gl N g s a w){cs':List AV}{cur p:Array Value}(O:s.heap[id]?=some (.buf e cs))(ae:g.cg id=some b)(E:w.heap[b]?=some (.cells cur e (0,0)))
  (Q:w'.heap[b]?=some (.cells p e (0,0)))(Y:p.size=cur.size)(d:w.grownBy w' (some b))(R:cs'.length<=cur.size)
  (Z:∀(i:Nat)c,cs'[i]?=some c->∃v,p[i]?=some v/\v.oneCell'=true/\bn g c v/\cY c):eL g w g w'/\Rel P gl N g { s with heap:=s.heap.set id (.buf e cs') } a w':=by
 obtain⟨x,k,aj,av,⟨arr,ty,bT,b8,T,V,_⟩,⟨sh,F,z2⟩,i,z,da,eN,fQ,ql,Ny,G⟩:=h.heap id _ O;obtain rfl:x=b:=Option.some.inj (aj.symm.trans ae);have J:id<s.heap.length:=(List.getElem?_eq_some_iff.1 O).1;have f:GhLe g g:=⟨λ_ _ _ h=>h,λ_ _ h=>h⟩;have Si:=(Array.getElem?_eq_some_iff.1 E).1;have hk:Kept g w g w' λo=>o≠.none/\o≠.bM id:=λk hk=>⟨rfl,d.block k (h.own k hk.1) (λe=>by
  simp only[Option.some.injEq]at e;subst e;exact hk.2 T),λ_=>rfl⟩
 have hm:∀arr n,w.heap[x]?≠some (.map arr n):=λarr n e=>by rw[E]at e;cases e
 refine⟨⟨f,λk C=>⟨C,(hk k (by rw[C];simp)).2.1,λ_=>rfl⟩,d.size,by rw[d.os,d.tape],d.output⟩,?_⟩;refine⟨h.sorted,h.size,h.defers,λt e he=>(h.env t e he).kept f hk be be be,λD bM j=>?_,λk off v X=>?_,λk C=>Nat.lt_of_lt_of_le (h.own k C) d.size,h.hf,λD b ae=>by simp only[List.length_set];exact h.ga D b ae⟩
 ·simp only at j;by_cases K:D=id
  ·subst K;rw[List.getElem?_set_self J]at j;simp only[Option.some.injEq]at j;subst j;refine⟨x,k,ae,av,⟨p,e,Q,am,T,V,λi c al=>?_⟩,⟨p,Q,?_⟩,i,z,da,eN,fQ,ql,Ny,G⟩
   ·obtain⟨v,aP,aV,bP,c5⟩:=Z i c al;exact⟨v,aP,aV,bP,c5.gG⟩
   ·rw[E]at F;simp only[Option.some.injEq,Obj.cells.injEq]at F;rw[Y,F.1,z2]
  ·rw[List.getElem?_set_ne (λe=>K e.symm)]at j;exact(h.heap D bM j).beside f hk K ae hm (λi al=>by simp[al]) be
 ·have ey:=h.fI k off v X;have nr:k≠x:=by rintro rfl;have:g.γ k off=some v:=X;rw[V]at this;cases this
  exact d.cell ey (by simpa using nr)
end
section
open Go.Sort Go.Shelf
variable {P:Program}{gl:cQ}{cg:Ren}
theorem ajo:ng=ltStr:=by
 funext x y
 exact bytesLess_eq x y
theorem Sj:∀(l:List ak)(i:Nat),(im l)[i]?=(l[i]?).map AV.str
 |[],i=>by simp[im]|s::r,0=>by simp[im]|s::r,i+1=>by simp only[im,List.getElem?_cons_succ];exact Sj r i
theorem aHT(K:Lays.n190 P cg)(O:kR P (cg.f 190)=true){l:List ak}(C:H[id]?=some (.buf e (im l)))(bw:l.length<=M) :
  bB P gl (cg.f 190) [.bI id 0 l.length 1] H λr H'=>r=.bg []/\H'=H.set id (.buf e (im (Sort.sort ng l.toArray).toList)):=by
 have cP:M=1099511627776:=rfl;refine⟨O,λg w vs d Q _=>?_⟩;cases Q with
 |cons _ _ v ws R T =>
  cases T;obtain⟨b,k,cap,D,av,aQ,bG,rfl⟩:=R.ti;obtain⟨p,k',V,b8,⟨arr,Y,o,z2,z3,z4,Z⟩,⟨sh,E,eN⟩,_⟩:=d.heap id _ C;obtain rfl:p=b:=Option.some.inj (V.symm.trans D);obtain⟨rfl,rfl,_⟩:arr=sh/\Y=e/\True:=by rw[o]at E;simp only[Option.some.injEq,Obj.cells.injEq]at E;omega
  have j1:(im l).length=l.length:=GP l;have F:∀(j:Nat)(f:j<l.length),arr[j]?=some (encStr l[j])/\l[j].length<=M:=λj f=>by
   obtain⟨v,aP,aV,bP,c5⟩:=Z j (.str l[j]) (by rw[Sj,aK5 f];rfl);obtain⟨rfl,aC⟩:=bP.mG;exact⟨aP,aC⟩
  have bJ:=(Array.getElem?_eq_some_iff.1 o).1;have hH:Holds encStr w p 0 l.toArray:=holds_of_block o (by
   apply List.ext_getElem?;intro j;by_cases f:j<l.length
   ·rw[List.getElem?_take_of_lt f,Array.getElem?_toList,(F j f).1,List.getElem?_map,aK5 f];rfl
   ·rw[List.getElem?_take_eq_none am,List.getElem?_eq_none d9])
  have z:((l.mergeSort λx y=>decide (x<=y)).toArray)=Sort.sort ng l.toArray:=by rw[ajo,<-sortStr l]
  refine(Any.slices_Sort_string K p 0 cap l w hH bJ am).mono ?_;rintro cB w' ⟨rfl,n,os,rfl⟩;rw[z];obtain⟨X,bA⟩:∃X,X=(Sort.sort ng l.toArray).toList:=⟨_,rfl⟩;have Sl:Sort.sort ng l.toArray=X.toArray:=by rw[bA]
  have G:X.Perm l:=by rw[bA,ajo,sortStr l];exact List.mergeSort_perm _ _
  rw[Sl];have y1:X.length=l.length:=G.length_eq;obtain⟨g1,g2⟩:=d.ajn (cs':=im X) C D o (heap_sorted X.toArray o) (by simp[putCells]) (grownBy_sorted _) (by rw[GP,y1];omega) (λi c J=>by
   rw[Sj,Option.map_eq_some_iff]at J;obtain⟨x,ah,rfl⟩:=J;have al:i<X.length:=(List.getElem?_eq_some_iff.1 ah).1;have yS:i<arr.size:=by omega
   refine⟨encStr x,?_,rfl,.pure _ _ (.str _ ?_),zp _⟩
   ·have:=congrArg (·[i]?) (take_putCells arr X am);simp only[List.getElem?_take_of_lt al,Array.getElem?_toList,List.getElem?_map,ah,aKT]at this;exact this
   ·have hm:x∈l:=G.mem_iff.1 (List.mem_of_getElem? ah);obtain⟨j,f,rfl⟩:=List.mem_iff_getElem.1 hm;exact(F j f).2)
  exact⟨_,.bg [],_,g,rfl,⟨rfl,rfl⟩,g1,g2,.bg [] [] .nil,fC.mE be⟩
theorem aHV(f:Lays.n190 P cg)(j:kR P (cg.f 190)=true)(H:List ay):bB P gl (cg.f 190) [.aS 1] H λr H'=>r=.bg []/\H'=H:=by
 refine⟨j,λg w vs d o _=>?_⟩;cases o with
 |cons _ _ v ws p x =>
  cases x;cases p with
  |pure _ _ h =>
   cases h;refine(Any.slices_Sort_string_none f none 0 w).mono ?_;rintro e w' ⟨rfl,rfl⟩;exact⟨_,.bg [],_,g,rfl,⟨rfl,rfl⟩,eL.refl _ _,d,.bg [] [] .nil,fC.mE be⟩
end
end AM
