/- An abstract machine, and what of the given program it does, part 18. Conditions: none. -/
import Derived.Test.YtclmmldjogkhoaaGreatDoorAm16
set_option linter.unusedVariables false
namespace AM
open List renaming map_cons -> I9,mem_map -> Ja,mem_append -> TH,length_append -> fM,mem_singleton -> aeZ,all_eq_true -> ae0,length_cons -> aB5,any_eq_true -> aB8,mem_cons_of_mem -> aHk,mem_cons_self -> aHV,mem_filter -> aHW,cons_append -> aIB,length_map -> aIC,mem_flatMap -> aID,append_assoc -> aIE,nodup_append -> aIF,mem_cons -> aII,contains_iff_mem -> aIJ,map_append -> aIK,take_of_length_le -> aIL,nodup_cons -> aIM,foldl_cons -> aIO,eq_nil_iff_forall_not_mem -> aIP,length_filter_le -> aIQ,nodup_iff_pairwise_ne -> aIS
open Bool renaming and_eq_true -> LW,and_self -> aIA,or_eq_true -> aIG,eq_iff_iff -> aIN
open Nat renaming le_refl -> aB9,mul_le_mul_right -> aIR
open Option renaming map_some -> aIH
open Go
open Enc (enc)
mutual
def cy:I->aj|.mk n l=>match l with|[]=>n|t::r=>n++40::(cy t++(iY r++[41]))
def iY:List I->aj|[]=>[]|t::r=>44::(cy t++iY r)
end
def jW:List I->aj|[]=>[]|t::r=>cy t++iY r
theorem acy(t:I):cy t=if t.args.length=0 then t.name else t.name++40::(jW t.args++[41]):=by
 obtain⟨n,l⟩:=t;cases l with
 |nil=>simp[cy,I.args,I.name]|cons t r=>simp[cy,I.args,I.name,jW]
theorem acz:∀(l:List I)(t:I),iY (l++[t])=iY l++44::cy t
 |[],t=>by simp[iY]|u::l,t=>by simp[iY,acz l t]
theorem aye(t:I):jW [t]=cy t:=by simp[jW,iY]
theorem ayf{l:List I}(h:l≠[])(t:I):jW (l++[t])=jW l++44::cy t:=by
 cases l with
 |nil=>exact absurd rfl h|cons u l=>simp[jW,acz]
section
variable {α:Type}
def getM:List (aj×α)->aj->Option α
 |[],_=>none|(k,v)::r,s=>if s=k then some v else getM r s
def xz:List (aj×α)->aj->α->List (aj×α)
 |[],_,_=>[]|(k,u)::r,s,v=>if s=k then(k,v)::r else(k,u)::xz r s v
def vM:List (aj×α)->aj->α->List (aj×α)
 |[],s,v=>[(s,v)]|(k,u)::r,s,v=>if Op.bytesLess s k then(s,v)::(k,u)::r else(k,u)::vM r s v
def fz(l:List (aj×α))(s:aj)(v:α):List (aj×α):=match getM l s with|some _=>xz l s v|none=>vM l s v
def lL:List (aj×α)->aj->List (aj×α)
 |[],_=>[]|(k,u)::r,s=>if s=k then r else(k,u)::lL r s
def kD(n:Nat)(l:List (aj×α))(s:aj):Nat:=match getM l s with|some _=>n|none=>n+1
def cb(f:α->AV)(l:List (aj×α)):List (AV×AV):=l.map fun p=>(AV.str p.1,f p.2)
theorem sS(s t:aj):dB (.str s) (.str t)=decide (s=t):=by
 simp only[dB];by_cases h:s=t<;>simp[h]
theorem BG(f:α->AV):∀(l:List (aj×α))(s:aj),gG (cb f l) (.str s)=(getM l s).map f
 |[],_=>rfl|(k,v)::r,s=>by
  have ih:=BG f r s;simp only[cb]at ih;simp only[cb,I9,gG,sS,getM,decide_eq_true_eq];by_cases h:s=k
  ·rw[if_pos h,if_pos h];rfl
  ·rw[if_neg h,if_neg h,ih]
theorem Ig(f:α->AV):∀(l:List (aj×α))(s:aj)(v:α),iJ (cb f l) (.str s) (f v)=cb f (xz l s v)
 |[],_,_=>rfl|(k,u)::r,s,v=>by
  have ih:=Ig f r s v;simp only[cb]at ih;simp only[cb,I9,iJ,sS,xz,decide_eq_true_eq];by_cases h:s=k
  ·rw[if_pos h,if_pos h];rfl
  ·rw[if_neg h,if_neg h,ih];rfl
theorem acA(f:α->AV):∀(l:List (aj×α))(s:aj)(v:α),tf (cb f l) (.str s) (f v)=cb f (vM l s v)
 |[],_,_=>rfl|(k,u)::r,s,v=>by
  have ih:=acA f r s v;simp only[cb]at ih;have hk:JC (.str s) (.str k)=Op.bytesLess s k:=rfl;simp only[cb,I9,tf,vM,hk];by_cases h:Op.bytesLess s k=true
  ·simp only[h,if_true,I9]
  ·grind
theorem acB(f:α->AV)(n:Nat)(l:List (aj×α))(s:aj)(v:α):oG n (cb f l) (.str s) (f v)=.map (kD n l s) (cb f (fz l s v)):=by
 rw[oG,BG,kD,fz];cases getM l s with
 |some u=>simp only[aIH,Ig]|none=>simp only[Option.map_none,acA]
theorem acC(f:α->AV):∀(l:List (aj×α))(s:aj),uz (cb f l) (.str s)=cb f (lL l s)
 |[],_=>rfl|(k,u)::r,s=>by
  have ih:=acC f r s;simp only[cb]at ih;simp only[cb,I9,uz,sS,lL,decide_eq_true_eq];by_cases h:s=k
  ·rw[if_pos h,if_pos h]
  ·rw[if_neg h,if_neg h,ih];rfl
theorem BH(f:α->AV)(l:List (aj×α)):kG [1] (cb f l)=true:=by cases l<;>rfl
theorem zn(f:α->AV)(l:List (aj×α)):(cb f l).length=l.length:=by simp[cb]
def b2(l:List (aj×α)):List aj:=l.map Prod.fst
variable {l:List (aj×α)}{s:aj}
theorem getM_none :getM l s=none↔s∉b2 l:=by
 induction l with
 |nil=>simp[getM,b2]|cons p r ih =>
  obtain⟨k,v⟩:=p;simp only[getM,b2,I9,aII,not_or]at ih ⊢;by_cases h:s=k
  ·simp[h]
  ·rw[if_neg h,ih];simp[h]
variable {v:α}
theorem rP(a:(b2 l).Nodup) :getM l s=some v↔(s,v)∈l:=by
 induction l with
 |nil=>simp[getM]|cons p r ih =>
  obtain⟨k,u⟩:=p;simp only[b2,I9,aIM]at a;simp only[getM,aII,Prod.mk.injEq];by_cases h:s=k
  ·grind
  ·rw[if_neg h,ih a.2];simp[h]
theorem ayg(h:(getM l s).isSome=true)(t:aj):getM (xz l s v) t=if t=s then some v else getM l t:=by
 induction l with
 |nil=>simp[getM]at h|cons p r ih =>
  obtain⟨k,u⟩:=p;simp only[getM]at h;simp only[xz];by_cases az:s=k
  ·subst az;rw[if_pos rfl];simp only[getM];by_cases a:t=s<;>simp[a]
  ·rw[if_neg az]at h ⊢;simp only[getM,ih h];by_cases a:t=k
   ·subst a;simp[Ne.symm az]
   ·simp[a]
theorem ayh(h:getM l s=none)(t:aj):getM (vM l s v) t=if t=s then some v else getM l t:=by
 induction l with
 |nil=>simp[getM,vM]|cons p r ih =>
  obtain⟨k,u⟩:=p;simp only[getM]at h;by_cases az:s=k
  ·simp[az]at h
  ·rw[if_neg az]at h;simp only[vM];by_cases ae:Op.bytesLess s k=true
   ·rw[if_pos ae];simp only[getM]
   ·rw[if_neg ae];simp only[getM,ih h];by_cases a:t=k
    ·subst a;simp[Ne.symm az]
    ·simp[a]
theorem vN(l:List (aj×α))(s:aj)(v:α)(t:aj):getM (fz l s v) t=if t=s then some v else getM l t:=by
 rw[fz];split
 ·rename_i u a;exact ayg (by rw[a];rfl) t
 ·rename_i a;exact ayh a t
theorem acD(l:List (aj×α))(s:aj)(v:α):b2 (xz l s v)=b2 l:=by
 induction l with
 |nil=>rfl|cons p r ih =>
  obtain⟨k,u⟩:=p;simp only[b2]at ih;simp only[xz];split<;>simp[b2,ih]
theorem acE(l:List (aj×α))(s:aj)(v:α):(b2 (vM l s v)).Perm (s::b2 l):=by
 induction l with
 |nil=>exact .refl _|cons p r ih =>
  obtain⟨k,u⟩:=p;simp only[vM];split
  ·exact .refl _
  ·exact(List.Perm.cons k ih).trans (.swap _ _ _)
theorem zo(h:(b2 l).Nodup)(s:aj)(v:α):(b2 (fz l s v)).Nodup:=by
 rw[fz];split
 ·rw[acD];exact h
 ·rename_i a;rw[(acE l s v).nodup_iff,aIM];exact⟨getM_none.1 a,h⟩
theorem acF(l:List (aj×α))(s:aj)(v:α)(t:aj):t∈b2 (fz l s v)↔t=s\/t∈b2 l:=by
 have a:=getM_none (l:=fz l s v) (s:=t);have U:=getM_none (l:=l) (s:=t);rw[vN]at a;by_cases h:t=s
 ·subst h;simp at a;simp[a]
 ·grind
theorem Oq:∀{l:List (aj×α)}{s:aj},(lL l s).Sublist l
 |[],_=>.slnil|(k,u)::r,s=>by
  simp only[lL];split
  ·exact .cons _ (List.Sublist.refl _)
  ·exact .cons_cons _ Oq
theorem Ot(h:(b2 l).Nodup)(s:aj):(b2 (lL l s)).Nodup:=List.Nodup.sublist (Oq.map _) h
theorem Ou(h:(b2 l).Nodup)(s t:aj):getM (lL l s) t=if t=s then none else getM l t:=by
 induction l with
 |nil=>simp[getM,lL]|cons p r ih =>
  obtain⟨k,u⟩:=p;simp only[b2,I9,aIM]at h;simp only[lL];by_cases az:s=k
  ·subst az;rw[if_pos rfl];by_cases a:t=s
   ·subst a;rw[if_pos rfl];exact getM_none.2 h.1
   ·rw[if_neg a];simp only[getM,if_neg a]
  ·rw[if_neg az];simp only[getM,ih h.2];by_cases a:t=k
   ·subst a;simp[Ne.symm az]
   ·simp[a]
theorem acG(l:List (aj×α))(s:aj)(v:α):(fz l s v).length=if(getM l s).isSome then l.length else l.length+1:=by
 have b:(b2 (fz l s v)).length=(fz l s v).length:=by simp[b2]
 rw[<-b,fz];split
 ·rename_i u a;rw[acD,a];simp[b2]
 ·rename_i a;rw[(acE l s v).length_eq,a];simp[b2]
theorem acH(f:α->AV)(l:List (aj×α))(ks:List aj):(cb f l).filter (fun e=>!(ks.map AV.str).any (dB e.1))=cb f (l.filter fun p=>!ks.contains p.1):=by
 rw[cb,List.filter_map,cb];congr 1
 apply List.filter_congr;intro p _;simp only[Function.comp];congr 1
 rw[aIN,aB8,aIJ];constructor
 ·rintro⟨x,ah,he⟩;obtain⟨k,hk,rfl⟩:=Ja.1 ah;rw[sS,decide_eq_true_eq]at he;rw[he];exact hk
 ·intro h;exact⟨.str p.1,Ja.2 ⟨_,h,rfl⟩,by rw[sS];simp⟩
end
section
variable {P:Program}{gl:cp}{D:bc}{s:an}{K:an->Prop}{t:aM K}
variable {d:Nat}
theorem ayi :bV P gl D s K t (.ux d)=c7 { s with heap:=s.heap++[ax.map 0 []] } d (.map s.heap.length) K ⟨⟩:=_root_.id rfl
def vO(zero:AV):Bool->Option AV->AV
 |true,some v=>.a8 [v.aW,.bool true]|false,some v=>v.aW|true,none=>.a8 [zero,.bool false]|false,none=>zero
theorem ayj(z v:AV):vO z true (some v)=.a8 [v.aW,.bool true]:=_root_.id rfl
theorem ayk(z v:AV):vO z false (some v)=v.aW:=_root_.id rfl
theorem ayl(z:AV):vO z true none=.a8 [z,.bool false]:=_root_.id rfl
theorem aym(z:AV):vO z false none=z:=_root_.id rfl
def Ev(ks:List Nat)(zero:AV)(ok:Bool)(kk:AV):Option ax->Option AV
 |some (.map _ es)=>if(fb ks kk&&kG ks es)=true then some (vO zero ok (gG es kk))else none|_=>none
def Ov(ks:List Nat)(zero:AV)(ok:Bool)(H:List ax)(kk:AV):AV->Option AV
 |.map id=>Ev ks zero ok kk H[id]?|.gw=>if fb ks kk=true then some (vO zero ok none)else none|_=>none
variable {ks:List Nat}{zero:AV}{ok:Bool}{H:List ax}{kk:AV}{id:Nat}
theorem acI :Ov ks zero ok H kk (.map id)=Ev ks zero ok kk H[id]?:=_root_.id rfl
variable {m k:aI}
theorem ayn :bV P gl D s K t (.look ks d m k zero ok)=bK (bg gl s.env m) (fun a=>bK (bg gl s.env k) (fun b=>bK (Ov ks zero ok s.heap b a) (fun v=>c7 s d v K ⟨⟩) ⟨⟩) ⟨⟩) ⟨⟩:=by
 rw[U6];simp only[aH];cases bg gl s.env m with
 |none=>rfl|some a=>cases bg gl s.env k with
  |none=>cases a<;>rfl|some b =>
   cases a with
   |map id =>
    simp only[ec,acI];cases s.heap[id]? with
    |none=>rfl|some o=>cases o with
     |map n es =>
      simp only[Ev];by_cases h:(fb ks b&&kG ks es)=true
      ·rw[if_pos h,if_pos h,ec];cases gG es b<;>cases ok<;>rfl
      ·rw[if_neg h,if_neg h];rfl
     |_=>rfl
   |gw =>
    simp only[ec,Ov];by_cases h:fb ks b=true
    ·rw[if_pos h,if_pos h,ec];cases ok<;>rfl
    ·rw[if_neg h,if_neg h];rfl
   |_=>rfl
variable {α:Type}{f:α->AV}{q:aj}{n:Nat}{l:List (aj×α)}
theorem ayo :Ev [1] zero ok (.str q) (some (.map n (cb f l)))=some (vO zero ok ((getM l q).map f)):=by
 simp only[Ev,BH,BG,fb,beq_self_eq_true,aIA,if_true]
def tU(ks:List Nat)(kk v:AV)(id:Nat)(H:List ax):Option ax->Option (List ax)
 |some (.map n es)=>if(fb ks kk&&kG ks es)=true then some (H.set id (oG n es kk v.aW))else none|_=>none
def acJ(ks:List Nat)(H:List ax)(kk v:AV):AV->Option (List ax)
 |.map id=>tU ks kk v id H H[id]?|_=>none
theorem acK{v:AV} :acJ ks H kk v (.map id)=tU ks kk v id H H[id]?:=_root_.id rfl
theorem ayp{v:aI}:bV P gl D s K t (.pr ks m k v)=bK (bg gl s.env m) (fun a=>bK (bg gl s.env k) (fun b=>bK (bg gl s.env v) (fun c=>bK (acJ ks s.heap b c a) (fun H=>K { s with heap:=H }) ⟨⟩) ⟨⟩) ⟨⟩) ⟨⟩:=by
 rw[U8];simp only[aH];cases bg gl s.env m with
 |none=>rfl|some a=>cases bg gl s.env k with
  |none=>cases a<;>rfl|some b=>cases bg gl s.env v with
   |none=>cases a<;>rfl|some c =>
    cases a with
    |map id =>
     simp only[ec,acK];cases s.heap[id]? with
     |none=>rfl|some o=>cases o with
      |map n es =>
       simp only[tU];by_cases h:(fb ks b&&kG ks es)=true
       ·rw[if_pos h,if_pos h];rfl
       ·rw[if_neg h,if_neg h];rfl
      |_=>rfl
    |_=>rfl
variable {x:AV}
theorem Ow{v:α}(ah:x.aW=f v):tU [1] (.str q) x id H (some (.map n (cb f l)))=some (H.set id (.map (kD n l q) (cb f (fz l q v)))):=by
 simp only[tU,BH,fb,beq_self_eq_true,aIA,if_true,ah,acB]
theorem ayq{v:I}{l:List (aj×I)}:tU [1] (.str q) v.enc id H (some (.map n (cb I.enc l)))=some (H.set id (.map (kD n l q) (cb I.enc (fz l q v)))):=Ow v.aW
theorem ayr{v:Bool}{l:List (aj×Bool)}:tU [1] (.str q) (.bool v) id H (some (.map n (cb AV.bool l)))=some (H.set id (.map (kD n l q) (cb AV.bool (fz l q v)))):=Ow rfl
theorem ays{v:Int}{l:List (aj×Int)}:tU [1] (.str q) (.int .i64 v) id H (some (.map n (cb (AV.int .i64) l)))=some (H.set id (.map (kD n l q) (cb (AV.int .i64) (fz l q v)))):=Ow rfl
def k1(e:Nat)(l:List I):AV:=.list (some e) 2 (l.map I.enc)
theorem ayt(e:Nat)(l:List I):(k1 e l).aW=.list none 2 (l.map I.enc):=_root_.id rfl
def zp(ks:List Nat)(s:an)(d:Nat)(zero kk:AV)(id:Nat)(K:an->Prop)(_:aM K):Option ax->Prop
 |some (.map n es)=>if(fb ks kk&&kG ks es)=true then
   (match gG es kk with
    |some (.list (some e) sz xs)=>c7 { s with heap:=s.heap.set id (.map n (iJ es kk (.list none sz xs))) } d (.list (some e) sz xs) K ⟨⟩|some _=>False|none=>c7 s d zero K ⟨⟩)else False
 |_=>False
def acL(ks:List Nat)(s:an)(d:Nat)(zero kk:AV)(K:an->Prop)(_:aM K):AV->Prop
 |.map id=>zp ks s d zero kk id K ⟨⟩ s.heap[id]?|_=>False
theorem acM :acL ks s d zero kk K t (.map id)=zp ks s d zero kk id K ⟨⟩ s.heap[id]?:=_root_.id rfl
theorem ayu :bV P gl D s K t (.h8 ks d m k zero)=bK (bg gl s.env m) (fun a=>bK (bg gl s.env k) (fun b=>acL ks s d zero b K ⟨⟩ a) ⟨⟩) ⟨⟩:=by
 rw[U7];simp only[aH];cases bg gl s.env m with
 |none=>rfl|some a=>cases bg gl s.env k with
  |none=>cases a<;>rfl|some b =>
   cases a with
   |map id =>
    simp only[ec,acM];cases s.heap[id]? with
    |none=>rfl|some o=>cases o with
     |map n es =>
      simp only[zp];by_cases h:(fb ks b&&kG ks es)=true
      ·rw[if_pos h,if_pos h];cases gG es b with
       |none=>rfl|some v=>cases v with
        |list o sz xs=>cases o<;>rfl|_=>rfl
      ·rw[if_neg h,if_neg h];rfl
     |_=>rfl
   |_=>rfl
variable {e:Nat}{l:List (aj×List I)}{L:List I}
theorem ayv(h:getM l q=some L) :
  zp [1] s d zero (.str q) id K t (some (.map n (cb (k1 e) l)))=c7 { s with heap:=s.heap.set id (.map n (iJ (cb (k1 e) l) (.str q) (.list none 2 (L.map I.enc)))) } d (.list (some e) 2 (L.map I.enc)) K ⟨⟩:=by
 simp only[zp,BH,fb,beq_self_eq_true,aIA,if_true,BG,h,aIH,k1]
theorem ayw(h:getM l q=none) :
  zp [1] s d zero (.str q) id K t (some (.map n (cb (k1 e) l)))=c7 s d zero K ⟨⟩:=by
 simp only[zp,BH,fb,beq_self_eq_true,aIA,if_true,BG,h,Option.map_none]
def vP(ks:List Nat)(s:an)(v:Nat)(kk:AV)(id:Nat)(e sz:Nat)(xs:List AV)(K:an->Prop)(_:aM K):Option ax->Prop
 |some (.map n es)=>if(fb ks kk&&kG ks es)=true then c7 { s with heap:=s.heap.set id (oG n es kk (.list (some e) sz xs)) } v (.list none sz xs) K ⟨⟩else False|_=>False
def acN(ks:List Nat)(s:an)(v:Nat)(kk:AV)(K:an->Prop)(_:aM K):AV->cW->Prop
 |.map id,.v (.list (some e) sz xs)=>vP ks s v kk id e sz xs K ⟨⟩ s.heap[id]?|_,_=>False
variable {v sz:Nat}{xs:List AV}
theorem acO :acN ks s v kk K t (.map id) (.v (.list (some e) sz xs))=vP ks s v kk id e sz xs K ⟨⟩ s.heap[id]?:=_root_.id rfl
theorem ayx :bV P gl D s K t (.qh ks m k v)=bK (bg gl s.env m) (fun a=>bK (bg gl s.env k) (fun b=>bK (Env.get s.env v) (fun c=>acN ks s v b K ⟨⟩ a c) ⟨⟩) ⟨⟩) ⟨⟩:=by
 rw[U9];simp only[aH];cases bg gl s.env m with
 |none=>rfl|some a=>cases bg gl s.env k with
  |none=>cases a<;>rfl|some b=>cases Env.get s.env v with
   |none=>cases a<;>rfl|some c =>
    cases a with
    |map id =>
     cases c with
     |v x=>cases x with
      |list o sz xs=>cases o with
       |none=>rfl|some e =>
        simp only[ec,acO];cases s.heap[id]? with
        |none=>rfl|some o=>cases o with
         |map n es =>
          simp only[vP];by_cases h:(fb ks b&&kG ks es)=true
          ·rw[if_pos h,if_pos h];rfl
          ·rw[if_neg h,if_neg h];rfl
         |_=>rfl
      |_=>rfl
     |_=>rfl
    |_=>rfl
theorem ayy(f:α->AV)(l:List (aj×α))(q:aj)(x:AV):kG [1] (iJ (cb f l) (.str q) x)=true:=by
 cases l with
 |nil=>rfl|cons p r =>
  simp only[cb,I9,iJ];split<;>rfl
theorem acP(f:α->AV)(q:aj)(x:AV):∀(l:List (aj×α)),(getM l q).isSome=true->gG (iJ (cb f l) (.str q) x) (.str q)=some x
 |[],h=>by simp[getM]at h|(k,v)::r,h=>by
  have ih:=acP f q x r;simp only[cb]at ih;simp only[getM]at h;simp only[cb,I9,iJ,sS,decide_eq_true_eq];by_cases hk:q=k
  ·subst hk;simp[gG,sS]
  ·rw[if_neg hk]at h ⊢;simp only[gG,sS,decide_eq_true_eq,if_neg hk];exact ih h
theorem acQ(f:α->AV)(q:aj)(x y:AV):∀(l:List (aj×α)),iJ (iJ (cb f l) (.str q) x) (.str q) y=iJ (cb f l) (.str q) y
 |[]=>rfl|(k,v)::r=>by
  have ih:=acQ f q x y r;simp only[cb]at ih;simp only[cb,I9,iJ,sS,decide_eq_true_eq];by_cases hk:q=k
  ·subst hk;simp[iJ,sS]
  ·rw[if_neg hk,if_neg hk];simp only[iJ,sS,decide_eq_true_eq,if_neg hk,ih]
theorem ayz(h:(getM l q).isSome=true)(ah:xs=L.map I.enc) :
  vP [1] s v (.str q) id e 2 xs K t (some (.map n (iJ (cb (k1 e) l) (.str q) x)))=c7 { s with heap:=s.heap.set id (.map n (cb (k1 e) (fz l q L))) } v (.list none 2 (L.map I.enc)) K ⟨⟩:=by
 subst ah;simp only[vP,ayy,fb,beq_self_eq_true,aIA,if_true,oG,acP (k1 e) q x l h,acQ];have:=Ig (k1 e) l q L;simp only[k1]at this;rw[show(AV.list (some e) 2 (L.map I.enc))=k1 e L from rfl,Ig];rw[fz];cases a:getM l q with
 |none=>rw[a]at h;cases h|some u=>rfl
theorem ayA(h:getM l q=none)(ah:xs=L.map I.enc) :
  vP [1] s v (.str q) id e 2 xs K t (some (.map n (cb (k1 e) l)))=c7 { s with heap:=s.heap.set id (.map (n+1) (cb (k1 e) (fz l q L))) } v (.list none 2 (L.map I.enc)) K ⟨⟩:=by
 subst ah;simp only[vP,BH,fb,beq_self_eq_true,aIA,if_true];rw[show(AV.list (some e) 2 (L.map I.enc))=k1 e L from rfl,acB,kD,h]
def Ew(ks:List Nat)(kk:AV)(id:Nat)(H:List ax):Option ax->Option (List ax)
 |some (.map n es)=>if(fb ks kk&&kG ks es)=true then some (H.set id (.map n (uz es kk)))else none|_=>none
def acR(ks:List Nat)(H:List ax)(kk:AV):AV->Option (List ax)
 |.map id=>Ew ks kk id H H[id]?|_=>none
theorem acS :acR ks H kk (.map id)=Ew ks kk id H H[id]?:=_root_.id rfl
theorem ayB{d:Option Nat} :bV P gl D s K t (.ps ks d m k)=bK (bg gl s.env m) (fun a=>bK (bg gl s.env k) (fun b=>bK (acR ks s.heap b a) (fun H=>b7 (({ s with heap:=H }:an).fr d (.a8 [])) K ⟨⟩) ⟨⟩) ⟨⟩) ⟨⟩:=by
 rw[Va];simp only[aH];cases bg gl s.env m with
 |none=>rfl|some a=>cases bg gl s.env k with
  |none=>cases a<;>rfl|some b =>
   cases a with
   |map id =>
    simp only[ec,acS];cases s.heap[id]? with
    |none=>rfl|some o=>cases o with
     |map n es =>
      simp only[Ew];by_cases h:(fb ks b&&kG ks es)=true
      ·rw[if_pos h,if_pos h];rfl
      ·rw[if_neg h,if_neg h];rfl
     |_=>rfl
   |_=>rfl
variable {l:List (aj×α)}
theorem ayC :Ew [1] (.str q) id H (some (.map n (cb f l)))=some (H.set id (.map n (cb f (lL l q)))):=by
 simp only[Ew,BH,fb,beq_self_eq_true,aIA,if_true,acC]
def Ox(H:List ax)(id:Nat):Option ax->Option (List ax)
 |some (.map n _)=>some (H++[ax.iter (some id) n []])|_=>none
def acT(H:List ax):AV->Option (List ax)
 |.map id=>Ox H id H[id]?|.gw=>some (H++[ax.iter none 0 []])|_=>none
theorem acU :acT H (.map id)=Ox H id H[id]?:=_root_.id rfl
theorem ayD{es:List (AV×AV)}:Ox H id (some (.map n es))=some (H++[ax.iter (some id) n []]):=_root_.id rfl
theorem ayE :bV P gl D s K t (.q5 d m)=bK (bg gl s.env m) (fun a=>bK (acT s.heap a) (fun H=>c7 { s with heap:=H } d (.ptr s.heap.length 0) K ⟨⟩) ⟨⟩) ⟨⟩:=by
 rw[Vb];simp only[aH];cases bg gl s.env m with
 |none=>rfl|some a=>cases a with
  |map id =>
   simp only[ec,acU];cases s.heap[id]? with
   |none=>rfl|some o=>cases o<;>rfl
  |_=>rfl
def Ex(s:an)(d:Nat)(K:an->Prop)(_:aM K)(v:AV):Prop:=bK (q8 s.heap v) (fun(id,m,since,seen,es)=>match es with
   |[]=>b7 (s.put d (.a8 [.bool false])) K ⟨⟩|e0::es=>∀e∈e0::es,b7 (({ s with heap:=s.heap.set id (.iter m since (seen++[e.1])) }:an).put d (.a8 [.bool true,e.1,e.2.aW])) K ⟨⟩) ⟨⟩
variable {it:aI}
theorem ayF :bV P gl D s K t (.nc d it)=bK (bg gl s.env it) (fun v=>Ex s d K ⟨⟩ v) ⟨⟩:=by
 rw[UB];cases bg gl s.env it<;>rfl
variable {tV mid:Nat}{ks:List aj}
theorem Ih(f:α->AV)(a:s.heap[tV]?=some (.iter (some mid) n (ks.map AV.str)))(U:s.heap[mid]?=some (.map n (cb f l)))
  (b:l.filter (fun p=>!ks.contains p.1)=[])(hk:c7 s d (.a8 [.bool false]) K ⟨⟩):Ex s d K t (.ptr tV 0):=by
 have c:q8 s.heap (.ptr tV 0)=some (tV,some mid,n,ks.map AV.str,[]):=by
  simp only[q8,a,U,if_true];rw[acH,b];rfl
 unfold Ex;rw[c];exact hk
theorem Oy(f:α->AV)(c:s.heap[tV]?=some (.iter (some mid) n (ks.map AV.str)))(U:s.heap[mid]?=some (.map n (cb f l)))
  (g:l.filter (fun p=>!ks.contains p.1)≠[])(hk:∀p∈l,p.1∉ks->c7 { s with heap:=s.heap.set tV (.iter (some mid) n ((ks++[p.1]).map AV.str)) } d (.a8 [.bool true,.str p.1,(f p.2).aW]) K ⟨⟩):Ex s d K t (.ptr tV 0):=by
 obtain⟨a,r,b⟩:=List.exists_cons_of_ne_nil g;have h:q8 s.heap (.ptr tV 0)=some (tV,some mid,n,ks.map AV.str,cb f (a::r)):=by
  simp only[q8,c,U,if_true];rw[acH,b]
 unfold Ex;rw[h];intro e he;obtain⟨p,ao,rfl⟩:=Ja.1 (show e∈(a::r).map (fun p=>(AV.str p.1,f p.2)) from he);rw[<-b,aHW]at ao;have:=hk p ao.1 (by simpa using ao.2);rw[aIK]at this;exact this
def Ey(since:Nat)(seen:List AV):Option ax->Option AV
 |some (.map n es)=>(match seen.getLast? with
  |some k=>if n=since then(gG es k).map fun v=>.a8 [k,v.aW]else none|none=>none)
 |_=>none
def Ii(H:List ax):Option ax->Option AV
 |some (.iter (some mid) since seen)=>Ey since seen H[mid]?|_=>none
theorem ayG{since:Nat}{seen:List AV}:Ii H (some (.iter (some mid) since seen))=Ey since seen H[mid]?:=_root_.id rfl
def acV(H:List ax):AV->Option AV
 |.ptr id 0=>Ii H H[id]?|_=>none
theorem acW :acV H (.ptr id 0)=Ii H H[id]?:=_root_.id rfl
theorem ayH :bV P gl D s K t (.nR d it)=bK (bg gl s.env it) (fun a=>bK (acV s.heap a) (fun v=>c7 s d v K ⟨⟩) ⟨⟩) ⟨⟩:=by
 rw[Vc];simp only[aH];cases bg gl s.env it with
 |none=>rfl|some a=>cases a with
  |ptr id o=>cases o with
   |zero =>
    simp only[ec,acW];cases s.heap[id]? with
    |none=>rfl|some bA=>cases bA with
     |iter m since seen=>cases m with
      |none=>rfl|some mid =>
       simp only[Ii];cases s.heap[mid]? with
       |none=>rfl|some bA=>cases bA with
        |map n es =>
         simp only[Ey];cases seen.getLast? with
         |none=>rfl|some k =>
          simp only;by_cases h:n=since
          ·rw[if_pos h,if_pos h];cases gG es k<;>rfl
          ·rw[if_neg h,if_neg h];rfl
        |_=>rfl
     |_=>rfl
   |succ o=>rfl
  |_=>rfl
theorem ayI{k:aj}{v:α}(h:getM l k=some v) :
  Ey n ((ks++[k]).map AV.str) (some (.map n (cb f l)))=some (.a8 [.str k,(f v).aW]):=by
 simp only[Ey,aIK,I9,List.map_nil,List.getLast?_append,List.getLast?_singleton,Option.some_or,if_true,BG,h,aIH]
def Oz(l:Env)(H:List ax):Option cW->an
 |some (.v (.ptr id 0))=>⟨N l,H.set id .dead⟩|some (.v (.map id))=>⟨N l,H.set id .dead⟩|_=>⟨N l,H⟩
theorem ayJ{l:Env} :Oz l H (some (.v (.ptr id 0)))=⟨N l,H.set id .dead⟩:=_root_.id rfl
theorem ayK{l:Env}{u:Nat}:AF ⟨N l,H⟩ u=Oz l H (Env.get l u):=by
 unfold AF Oz;simp only[pM];cases Env.get l u with
 |none=>rfl|some e=>cases e with
  |v x=>cases x with
   |ptr i o=>cases o<;>rfl|_=>rfl
  |_=>rfl
def Ij(s:an)(d e sz:Nat)(p:lj)(K:an->Prop)(_:aM K):List AV->Prop
 |[.list (some e) sz xs]=>b7 (bz s [.list none sz xs] p) (fun s=>c7 s d (.list (some e) sz xs) K ⟨⟩) ⟨⟩|[.aV _]=>c7 s d (.list (some e) sz []) K ⟨⟩|_=>False
variable {b3 z:Nat}{p:lj}
theorem ayL :Ij s d e sz p K t [.list (some b3) z xs]=b7 (bz s [.list none z xs] p) (fun s=>c7 s d (.list (some b3) z xs) K ⟨⟩) ⟨⟩:=_root_.id rfl
theorem ayM :Ij s d e sz p K t [.aV z]=c7 s d (.list (some e) sz []) K ⟨⟩:=_root_.id rfl
variable {x:aI}
theorem ayN :bV P gl D s K t (.iv d x e sz)=bK (eo gl s.env x) (fun p=>bK (bC s 1 p) (fun cs=>Ij s d e sz p K ⟨⟩ cs) ⟨⟩) ⟨⟩:=by
 rw[UT];simp only[aH];cases eo gl s.env x with
 |none=>rfl|some p =>
  simp only[Option.bind_some,ec];cases bC s 1 p with
  |none=>rfl|some cs =>
   simp only[Option.bind_some,ec]
   match cs with
   |[]=>rfl|a::b::r=>cases a with
    |list o z xs=>cases o<;>rfl|_=>rfl
   |[v]=>cases v with
    |list o z xs=>cases o with
     |none=>rfl|some e =>
      simp only[Ij];cases bz s [.list none z xs] p<;>rfl
    |_=>rfl
def OA(s:an)(v:Nat)(p:lj)(K:an->Prop)(_:aM K):cW->Prop
 |.v (.list (some e) sz xs)=>c7 s v (.list none sz xs) (fun s=>b7 (bz s [.list (some e) sz xs] p) K ⟨⟩) ⟨⟩|_=>False
theorem ayO :OA s v p K t (.v (.list (some e) sz xs))=c7 s v (.list none sz xs) (fun s=>b7 (bz s [.list (some e) sz xs] p) K ⟨⟩) ⟨⟩:=_root_.id rfl
theorem ayP :bV P gl D s K t (.hP x v)=bK (eo gl s.env x) (fun p=>bK (Env.get s.env v) (fun e=>OA s v p K ⟨⟩ e) ⟨⟩) ⟨⟩:=by
 rw[UW];simp only[aH,kW];cases eo gl s.env x with
 |none=>rfl|some p =>
  simp only[ec];cases Env.get s.env v with
  |none=>rfl|some e=>cases e with
   |v y=>cases y with
    |list o z xs=>cases o with
     |none=>rfl|some e =>
      simp only[ec,OA,c7,b7];cases s.put v (.list none z xs)<;>rfl
    |_=>rfl
   |_=>rfl
theorem ayQ{f:Nat}{gx:List aI}:bV P gl D s K t (.oF d f gx)=bK (eG gl s.env gx) (fun vs=>if vs.all AV.one=true then c7 s d (.fn f (vs.map AV.aW)) K ⟨⟩else False) ⟨⟩:=by
 rw[U2];simp only[aH,kW];cases eG gl s.env gx with
 |none=>rfl|some v=>simp only[ec];split<;>rfl
def OB(s:an)(d e sz:Nat)(K:an->Prop)(_:aM K):AV->Prop
 |.int _ n=>if 0<=n/\n<=(M:Int)then c7 s d (.list (some e) sz []) K ⟨⟩else False|_=>False
theorem ayR{k:IntKind}{n:Int}:OB s d e sz K t (.int k n)=if 0<=n/\n<=(M:Int)then c7 s d (.list (some e) sz []) K ⟨⟩else False:=_root_.id rfl
theorem ayS{c:aI}:bV P gl D s K t (.q3 d c e sz)=bK (bg gl s.env c) (fun v=>OB s d e sz K ⟨⟩ v) ⟨⟩:=by
 rw[U3];simp only[aH];cases bg gl s.env c with
 |none=>rfl|some v=>cases v with
  |int k n=>simp only[ec,OB];split<;>rfl|_=>rfl
theorem ayT{z:List AV}:bV P gl D s K t (.uw d e z)=c7 { s with heap:=s.heap++[ax.buf e z,.dead] } d (.ptr s.heap.length 0) K ⟨⟩:=_root_.id rfl
def Ik(e sz:Nat):Option ax->Bool
 |some (.buf b3 cs)=>decide (b3=e/\sz<=cs.length)|_=>false
theorem ayU{cs:List AV}:Ik e sz (some (.buf b3 cs))=decide (b3=e/\sz<=cs.length):=_root_.id rfl
def OC(s:an)(d e sz:Nat)(K:an->Prop)(_:aM K):AV->Prop
 |.ptr id 0=>iC (Ik e sz s.heap[id]?) (fun b=>match b with|true=>c7 s d (.ptr id 0) K ⟨⟩|false=>False) ⟨⟩|_=>False
theorem ayV :OC s d e sz K t (.ptr id 0)=iC (Ik e sz s.heap[id]?) (fun b=>match b with|true=>c7 s d (.ptr id 0) K ⟨⟩|false=>False) ⟨⟩:=_root_.id rfl
theorem ayW :bV P gl D s K t (.q4 d x e sz)=bK (bg gl s.env x) (fun v=>OC s d e sz K ⟨⟩ v) ⟨⟩:=by
 rw[U4];simp only[aH];cases bg gl s.env x with
 |none=>rfl|some v=>cases v with
  |ptr id o=>cases o with
   |zero =>
    simp only[ec,OC];cases s.heap[id]? with
    |none=>rfl|some bA=>cases bA with
     |buf b3 cs =>
      simp only[Ik];by_cases h:b3=e/\sz<=cs.length
      ·rw[if_pos h,decide_eq_true h];rfl
      ·rw[if_neg h,decide_eq_false h];rfl
     |_=>rfl
   |succ o=>rfl
  |_=>rfl
theorem ayX{f:Nat} :bV P gl D s K t (.sa d f x)=bK (bg gl s.env x) (fun v=>c7 s d v.aW K ⟨⟩) ⟨⟩:=by
 rw[Vi];simp only[aH,kW];rfl
def Il:AV->Option AV
 |.bs id off n _=>if 0<n then some (.ptr id off)else none|.aV _=>some .eP|_=>none
theorem ayY{off:Nat}:Il (.bs id off n z)=if 0<n then some (.ptr id off)else none:=_root_.id rfl
theorem ayZ :Il (.aV z)=some .eP:=_root_.id rfl
theorem ay0 :bV P gl D s K t (.r8 d x)=bK (bg gl s.env x) (fun v=>bK (Il v) (fun v=>c7 s d v K ⟨⟩) ⟨⟩) ⟨⟩:=by
 rw[Vg];simp only[aH];cases bg gl s.env x with
 |none=>rfl|some v=>cases v with
  |bs id off n z=>simp only[ec,Il];split<;>rfl|_=>rfl
def h7(s:aj):List AV:=s.map fun c=>AV.int .u8 c.toNat
theorem zq(s:aj):(h7 s).length=s.length:=by simp[h7]
theorem ay1(s:aj):bytesOf (h7 s)=some s:=by
 induction s with
 |nil=>rfl|cons c r ih =>
  have h:(0:Int)<=(c.toNat:Int)/\(c.toNat:Int)<256:=⟨by omega,by have:=c.toNat_lt;omega⟩;simp only[h7,I9]at ih ⊢;simp only[bytesOf,if_pos h,ih,aIH,Int.toNat_natCast];simp
def BI(s:an)(d e:Nat)(K:an->Prop)(_:aM K):AV->AV->Prop
 |.ptr id 0,.int .i64 n=>(match s.heap[id]? with
   |some (.buf b3 cs)=>if b3=e/\0<n/\n<=(cs.length:Int)/\n<=(M:Int)then bK (bytesOf (cs.take n.toNat)) (fun b=>c7 { s with heap:=s.heap.set id .dead } d (.str b) K ⟨⟩) ⟨⟩else False|_=>False)
 |.eP,.int .i64 n=>if n=0 then c7 s d (.str []) K ⟨⟩else False|_,_=>False
theorem ay2{n:aI}:bV P gl D s K t (.r9 d e x n)=bK (bg gl s.env x) (fun v=>bK (bg gl s.env n) (fun u=>BI s d e K ⟨⟩ v u) ⟨⟩) ⟨⟩:=by
 rw[Vh];simp only[aH];cases bg gl s.env x with
 |none=>rfl|some v=>cases bg gl s.env n with
  |none =>
   cases v with
   |ptr id o=>cases o<;>rfl|_=>rfl
  |some u=>cases v with
   |ptr id o=>cases o with
    |zero=>cases u with
     |int k m=>cases k with
      |i64 =>
       simp only[ec,BI];cases s.heap[id]? with
       |none=>rfl|some bA=>cases bA with
        |buf b3 cs =>
         simp only;by_cases h:b3=e/\0<m/\m<=(cs.length:Int)/\m<=(M:Int)
         ·rw[if_pos h,if_pos h,kW];rfl
         ·rw[if_neg h,if_neg h];rfl
        |_=>rfl
      |_=>rfl
     |_=>rfl
    |succ o=>rfl
   |eP=>cases u with
    |int k m=>cases k with
     |i64=>simp only[ec,BI];split<;>rfl|_=>rfl
    |_=>rfl
   |_=>rfl
theorem ay3{s:an}{K:an->Prop}{t:aM K}(h:s.heap[id]?=some (.buf e (h7 q))/\n=q.length/\0<n/\n<=M):BI s d e K t (.ptr id 0) (.int .i64 n)=c7 { s with heap:=s.heap.set id .dead } d (.str q) K ⟨⟩:=by
 obtain⟨a,rfl,U,b⟩:=h;simp only[BI,a];rw[if_pos ⟨trivial,by omega,by rw[zq];omega,by omega⟩,Int.toNat_natCast,aIL (by rw[zq];exact aB9 _),ay1,ec]
theorem ay4 :BI s d e K t .eP (.int .i64 0)=c7 s d (.str []) K ⟨⟩:=_root_.id rfl
def om(s:an)(d e sz:Nat)(K:an->Prop)(_:aM K):AV->Option (Nat×List AV)->Prop
 |.aV nT,some (dE,ys)=>if nT=sz/\dE=sz/\ys.length<=M then(match ys with
   |[]=>c7 s d (.aV sz) K ⟨⟩|_::_=>c7 { s with heap:=s.heap++[ax.buf e (ys.map fun v:AV=>v.cells.map AV.aW).flatten,.dead] } d (.bs s.heap.length 0 ys.length sz) K ⟨⟩)else False
 |.bs id 0 n nT,some (dE,ys)=>(match s.heap[id]? with
   |some (.buf b3 cs)=>if b3=e/\nT=sz/\dE=sz/\n*sz<=cs.length/\n+ys.length<=M then
     c7 { s with heap:=s.heap.set id .dead++[ax.buf e ((cs.take (n*sz)).map AV.aW++(ys.map fun v:AV=>v.cells.map AV.aW).flatten),.dead] } d (.bs s.heap.length 0 (n+ys.length) sz) K ⟨⟩else False
   |_=>False)
 |_,_=>False
theorem ay5{h2:Bool}{u:aI}:bV P gl D s K t (.q6 d e sz h2 u x)=bK (bg gl s.env u) (fun a=>bK (bg gl s.env x) (fun b=>om s d e sz K ⟨⟩ a (AV.uu h2 b)) ⟨⟩) ⟨⟩:=by
 rw[Ve];simp only[aH];cases bg gl s.env u with
 |none=>rfl|some a=>cases bg gl s.env x with
  |none =>
   cases a with
   |bs id o n z=>cases o<;>rfl|_=>rfl
  |some b =>
   simp only[ec,Option.bind_some];cases AV.uu h2 b with
   |none =>
    cases a with
    |bs id o n z=>cases o<;>rfl|_=>rfl
   |some p =>
    obtain⟨g,c⟩:=p;cases a with
    |aV z =>
     simp only[om];by_cases h:z=sz/\g=sz/\c.length<=M
     ·rw[if_pos h,if_pos h];cases c<;>rfl
     ·rw[if_neg h,if_neg h];rfl
    |bs id o n z=>cases o with
     |zero =>
      simp only[om];cases s.heap[id]? with
      |none=>rfl|some bA=>cases bA with
       |buf b3 cs =>
        simp only;by_cases h:b3=e/\z=sz/\g=sz/\n*sz<=cs.length/\n+c.length<=M
        ·rw[if_pos h,if_pos h];rfl
        ·rw[if_neg h,if_neg h];rfl
       |_=>rfl
     |succ o=>rfl
    |_=>rfl
theorem OD(q:aj):(h7 q).map AV.aW=h7 q:=by
 rw[h7,List.map_map];exact List.map_congr_left fun _ _=>rfl
theorem acX(q:aj):((h7 q).map fun v:AV=>v.cells.map AV.aW).flatten=h7 q:=by
 induction q with
 |nil=>rfl|cons c r ih =>
  simp only[h7,I9,List.flatten_cons]at ih ⊢;rw[ih];rfl
theorem ay6(p q:aj):h7 (p++q)=h7 p++h7 q:=by simp[h7]
theorem acY{p:aj}(h:s.heap[id]?=some (.buf e (h7 p))/\n=p.length/\n+q.length<=M) :
  om s d e 1 K t (.bs id 0 n 1) (some (1,h7 q))=c7 { s with heap:=s.heap.set id .dead++[ax.buf e (h7 (p++q)),.dead] } d (.bs s.heap.length 0 (p++q).length 1) K ⟨⟩:=by
 obtain⟨a,rfl,U⟩:=h;simp only[om,a];rw[if_pos ⟨trivial,trivial,trivial,by rw[zq];omega,by rw[zq];exact U⟩,Nat.mul_one,aIL (by rw[zq];exact aB9 _),OD,acX,ay6,zq,fM]
theorem acZ(h:q≠[]/\q.length<=M) :
  om s d e 1 K t (.aV 1) (some (1,h7 q))=c7 { s with heap:=s.heap++[ax.buf e (h7 q),.dead] } d (.bs s.heap.length 0 q.length 1) K ⟨⟩:=by
 obtain⟨b,U⟩:=h;cases q with
 |nil=>exact absurd rfl b|cons c r =>
  have ae:=acX (c::r);have a:=zq (c::r);simp only[h7,I9]at ae a ⊢;simp only[om];rw[if_pos ⟨trivial,trivial,by rw[a];exact U⟩];rw[I9,ae,a]
theorem ay7 :om s d e 1 K t (.aV 1) (some (1,h7 []))=c7 s d (.aV 1) K ⟨⟩:=by
 simp only[om,h7,List.map_nil,List.length_nil];rw[if_pos ⟨trivial,trivial,Nat.zero_le _⟩]
theorem ay8{o:Option Nat} :AV.uu false (.list o sz xs)=some (sz,xs):=_root_.id rfl
theorem ay9 :AV.uu true (.str q)=some (1,h7 q):=rfl
end
variable {α:Type}{l:List α}{i:Nat}{x:α}
theorem dD(h:i<l.length):(l.set i x)[i]?=some x:=by simp[h]
theorem b5{j:Nat}(h:i≠j):(l.set i x)[j]?=l[j]?:=by simp[h]
variable {m:List α}
theorem dp(h:i<l.length):(l++m)[i]?=l[i]?:=List.getElem?_append_left h
theorem eE(h:i=l.length):(l++x::m)[i]?=some x:=by subst h;simp
variable {y:α}
theorem eY(h:i=l.length+1):(l++x::y::m)[i]?=some y:=by subst h;simp
theorem eN(h:i=l.length):(l++x::m).set i y=l++y::m:=by simp_all
theorem zr(h:l[i]?=some x):l.set i x=l:=by
 apply List.ext_getElem?;intro j;by_cases ak:i=j
 ·grind
 ·rw[List.getElem?_set_ne ak]
variable {H:List ax}
theorem dd{o:ax}(h:H[i]?=some o):i<H.length:=by grind
attribute [go_sem ↓ 5000] ayi ayn ayp ayu ayx ayB ayE ayF ayH ayK ayN ayP ayQ ayS ayT ayW ayX ay0 ay2 ay5
attribute [go_sem 5000] acI ayo ayj ayk ayl aym acK ayq ayr ays ayt acM acO acS ayC acU ayD acW ayG ayI ayJ ayL ayM ayO ayR ayU ayV ayY ayZ ay4 ay9 ay8
open Enc (enc)
def EA(l:Env)(H:List ax)(t off e sz:Nat)(iz:List AV)(id n dE:Nat):Option ax->Option an
 |some (.buf b3 cs)=>if b3=e/\dE=sz/\n*sz<=cs.length/\((cs.take (n*sz)).map AV.aW).all AV.eb=true/\n<=M then
    some { env:=(N l).ins t (.b (iz.set off (.list none sz (chunk sz n ((cs.take (n*sz)).map AV.aW))))),heap:=H.set id .dead }else none
 |_=>none
def EB(l:Env)(H:List ax)(t off e sz:Nat)(iz:List AV):Option AV->Option an
 |some (.bs id 0 n dE)=>EA l H t off e sz iz id n dE H[id]?|some _=>some ⟨N l,H⟩|none=>none
def OG(l:Env)(H:List ax)(t off e sz:Nat):Option cW->Option an
 |some (.b iz)=>EB l H t off e sz iz iz[off]?|_=>none
variable {t off e:Nat}
theorem azk{l:Env}{sz:Nat}:AB ⟨N l,H⟩ t off e sz=OG l H t off e sz (Env.get l t):=by
 unfold AB OG;simp only[pM];cases Env.get l t with
 |none=>rfl|some a=>cases a with
  |b c =>
   simp only[EB];cases c[off]? with
   |none=>rfl|some v=>cases v with
    |bs id o n z=>cases o with
     |zero =>
      simp only[EA];cases H[id]? with
      |none=>rfl|some bA=>cases bA<;>rfl
     |succ o=>rfl
    |_=>rfl
  |_=>rfl
theorem azl(l:Env)(H:List ax)(t off e sz:Nat)(a:List AV):OG l H t off e sz (some (.b a))=EB l H t off e sz a a[off]?:=_root_.id rfl
theorem azm(l:Env)(H:List ax)(t off e sz:Nat)(a:List AV)(o:Option Nat)(z:Nat)(xs:List AV):EB l H t off e sz a (some (.list o z xs))=some ⟨N l,H⟩:=_root_.id rfl
theorem azn(l:Env)(H:List ax)(t off e sz:Nat)(a:List AV)(id n z:Nat):EB l H t off e sz a (some (.bs id 0 n z))=EA l H t off e sz a id n z H[id]?:=_root_.id rfl
variable {id n:Nat}{m:List I}
theorem azo{l:Env}{a:List AV}(h:m.length=n/\n<=M):EA l H t off e 2 a id n 2 (some (.buf e (cM m)))=some ⟨N ((t,.b (a.set off (.list none 2 (m.map I.enc))))::l),H.set id .dead⟩:=by
 obtain⟨h,b⟩:=h;have U:(cM m).take (n*2)=cM m:=aIL (by rw[kC,h];exact aB9 _);simp only[EA,U,BE,Eo,kC,h,true_and,aB9,b,if_true];rw[<-h,Ep];simp only[cj,List.foldr_cons]
attribute [go_sem ↓ 5000] azk
attribute [go_sem 5000] azl azm azn
def kc(S:List I)(a:I):Bool:=S.any fun b=>cy b==cy a
def mg(S:List I)(a:I):List I:=if kc S a=true then S else S++[a]
def iE(S:List I)(n:aj):List I:=S.filter fun b=>b.name==n
structure iZ(km:List (aj×I))(bj:List (aj×List I))(S:List I):Prop where
 pX:(b2 km).Nodup
 tW:(b2 bj).Nodup
 Im:∀s,getM km s=S.find? fun b=>cy b==s
 OH:∀s,getM bj s=if iE S s=[]then none else some (iE S s)
 vQ:(S.map cy).Nodup
theorem iZ.nil:iZ [] [] []:=⟨.nil,.nil,fun _=>rfl,fun _=>rfl,.nil⟩
variable {km:List (aj×I)}{bj:List (aj×List I)}{S:List I}
theorem iZ.has(h:iZ km bj S)(a:I):(getM km (cy a)).isSome=kc S a:=by
 rw[h.Im,kc,aIN,List.find?_isSome,aB8]
theorem azp(S:List I)(a:I)(s:aj):iE (S++[a]) s=if a.name=s then iE S s++[a]else iE S s:=by
 rw[iE,List.filter_append];by_cases h:a.name=s
 ·simp[h,iE]
 ·simp[h,iE]
variable {a:I}
theorem iZ.add(h:iZ km bj S)(aE:kc S a=false):iZ (fz km (cy a) a) (fz bj a.name (iE S a.name++[a])) (S++[a]):=by
 refine⟨zo h.pX _ _,zo h.tW _ _,fun s=>?_,fun s=>?_,?_⟩
 ·rw[vN,h.Im,List.find?_append];have d:=h.has a;rw[aE,h.Im]at d;by_cases az:s=cy a
  ·grind
  ·rw[if_neg az];simp[Ne.symm az]
 ·rw[vN,azp,h.OH];by_cases az:s=a.name
  ·subst az;simp
  ·rw[if_neg az,if_neg (Ne.symm az)]
 ·rw[aIK,aIF];refine⟨h.vQ,by simp,fun x ah y c=>?_⟩;simp only[I9,List.map_nil,aeZ]at c;subst c;intro he;subst he;obtain⟨b,ae,he⟩:=Ja.1 ah;have:kc S a=true:=aB8.2 ⟨b,ae,by simp[he]⟩;rw[aE]at this;cases this
theorem iZ.mem(h:iZ km bj S)(s:aj)(b:I):(s,b)∈km↔b∈S/\s=cy b:=by
 rw[<-rP h.pX,h.Im];constructor
 ·grind
 ·rintro⟨d,rfl⟩;have f:=h.vQ;clear h;induction S with
  |nil=>cases d|cons c r ih=>grind
theorem iZ.len(h:iZ km bj S):km.length=S.length:=by
 have c:(b2 km).Perm (S.map cy):=(List.perm_ext_iff_of_nodup h.pX h.vQ).2 fun s=>by
  constructor
  ·intro az;obtain⟨p,ao,rfl⟩:=Ja.1 az;obtain⟨s,b⟩:=p;obtain⟨d,rfl⟩:=(h.mem s b).1 ao;exact Ja.2 ⟨b,d,rfl⟩
  ·intro az;obtain⟨b,ae,rfl⟩:=Ja.1 az;exact Ja.2 ⟨(cy b,b),(h.mem _ _).2 ⟨ae,rfl⟩,rfl⟩
 have:=c.length_eq;simpa[b2]using this
variable {L:List I}
theorem ac3(b:(L.map cy).Nodup)(U:∀a∈L,a∈S):L.length<=S.length:=by
 have h:(L.map cy).length<=(S.map cy).length:=List.Nodup.length_le_of_subset b (fun s az=>by
  obtain⟨a,aE,rfl⟩:=Ja.1 az;exact Ja.2 ⟨a,U a aE,rfl⟩)
 simpa using h
theorem azq(f:(L.map cy).Nodup)(U:∀a∈L,a∈S)(aE:a∈S)(g:cy a∉L.map cy):((L++[a]).map cy).Nodup/\(∀b∈L++[a],b∈S)/\L.length+1<=S.length:=by
 have c:((L++[a]).map cy).Nodup:=by grind
 have d:∀b∈L++[a],b∈S:=fun b ae=>by
  rcases TH.1 ae with ae|ae
  ·exact U b ae
  ·grind
 exact⟨c,d,by simpa using ac3 c d⟩
theorem iZ.all(b:iZ km bj S)(f:∀a∈L,a∈S)(j:km.filter (fun p=>!(L.map cy).contains p.1)=[]):∀a,a∈L↔a∈S:=fun a=>⟨f a,fun aE=>by
 have g:(cy a,a)∈km:=(b.mem _ _).2 ⟨aE,rfl⟩;have U:(L.map cy).contains (cy a)=true:=by
  cases d:(L.map cy).contains (cy a)with
  |true=>rfl|false =>
   have:(cy a,a)∈km.filter (fun p=>!(L.map cy).contains p.1):=aHW.2 ⟨g,by simp only[d];rfl⟩;rw[j]at this;cases this
 obtain⟨c,d,he⟩:=Ja.1 (aIJ.1 U);have k:(cy a,c)∈km:=(b.mem _ _).2 ⟨f c d,he.symm⟩;have h:=(rP b.pX).2 g;rw[(rP b.pX).2 k]at h;rw[<-Option.some.inj h];exact d⟩
structure tX(e:Nat)(H:List ax)(x k b:Nat)(n m:Nat)(km:List (aj×I))(bj:List (aj×List I)):Prop where
 ah:H[x]?=some (.cells [.map k,.map b])
 hk:H[k]?=some (.map n (cb I.enc km))
 ae:H[b]?=some (.map m (cb (k1 e) bj))
 cc:k≠b
variable {x k b:Nat}
theorem tX.OI{m:Nat}(h:tX e H x k b n m km bj):x≠k:=fun he=>by have:=h.ah;rw[he,h.hk]at this;cases this
theorem tX.OJ{m:Nat}(h:tX e H x k b n m km bj):x≠b:=fun he=>by have:=h.ah;rw[he,h.ae]at this;cases this
def gq(e:Nat)(H:List ax)(x k b:Nat)(S:List I):Prop:=∃n m km bj,tX e H x k b n m km bj/\iZ km bj S
variable {H':List ax}
theorem gq.of(h:gq e H x k b S)(c:H'[x]?=H[x]?)(U:H'[k]?=H[k]?)(d:H'[b]?=H[b]?):gq e H' x k b S:=by
 obtain⟨n,m,km,bj,aA,f⟩:=h;exact⟨n,m,km,bj,⟨c.trans aA.ah,U.trans aA.hk,d.trans aA.ae,aA.cc⟩,f⟩
variable {cs:List AV}{ks:List aj}{v:aj}
theorem azr{e0:Env}{K:an->Prop}{t:aM K}{d:Nat}(h:H[id]?=some (.buf e cs)/\n<=cs.length/\cs.take n=ks.map AV.str/\n+1<=M) :
  om ⟨e0,H⟩ d e 1 K t (.bs id 0 n 1) (some (1,[.str v]))=c7 ⟨e0,H.set id .dead++[ax.buf e ((ks++[v]).map AV.str),.dead]⟩ d (.bs H.length 0 (n+1) 1) K ⟨⟩:=by
 obtain⟨c,U,f,g⟩:=h;have j:(ks.map AV.str).map AV.aW=ks.map AV.str:=by rw[List.map_map];exact List.map_congr_left fun _ _=>rfl
 simp only[om,c];rw[if_pos ⟨trivial,trivial,trivial,by omega,by simpa using g⟩,Nat.mul_one,f,j,aIK];rfl
abbrev Sub:=List (aj×I)
def hl(t:I):Bool:=decide (t.args.length=0)&&e9 t.name
def mh(σ:Sub)(v:aj)(t:I):Bool×Sub:=match getM σ v with|some u=>(cf u t==0,σ)|none=>(true,σ++[(v,t)])
mutual
def eF:I->I->Sub->Bool×Sub
 |.mk n l,g,σ=>if hl (.mk n l)=true then mh σ n g else if n≠g.name\/l.length≠g.args.length then(false,σ)else gh l g.args σ
def gh:List I->List I->Sub->Bool×Sub
 |p::bP,g::gs,σ=>if(eF p g σ).1=true then gh bP gs (eF p g σ).2 else(false,(eF p g σ).2)|_,_,σ=>(true,σ)
end
theorem ac4(p g:I)(σ:Sub):eF p g σ=if hl p=true then mh σ p.name g else if p.name≠g.name\/p.args.length≠g.args.length then(false,σ)else gh p.args g.args σ:=by
 obtain⟨n,l⟩:=p;rw[eF];rfl
variable {l:List I}
theorem azs(c:i<l.length)(U:i<m.length)(σ:Sub):gh (l.drop i) (m.drop i) σ=if(eF l[i]! m[i]! σ).1=true then gh (l.drop (i+1)) (m.drop (i+1)) (eF l[i]! m[i]! σ).2 else(false,(eF l[i]! m[i]! σ).2):=by
 rw[fY c,fY U,gh]
theorem azt(c:l.length<=i)(σ:Sub):gh (l.drop i) (m.drop i) σ=(true,σ):=by
 rw[List.drop_eq_nil_of_le c];simp[gh]
mutual
def iF(σ:Sub):I->I
 |.mk n l=>match l with
  |[]=>if e9 n=true then(getM σ n).getD (.mk n [])else .mk n []|t::r=>.mk n (iF σ t::EC σ r)
def EC(σ:Sub):List I->List I|[]=>[]|t::r=>iF σ t::EC σ r
end
theorem azu(σ:Sub)(l:List I):EC σ l=l.map (iF σ):=by
 induction l with
 |nil=>simp[EC]|cons t r ih=>simp[EC,ih]
theorem OK(σ:Sub)(t:I):iF σ t=if hl t=true then(getM σ t.name).getD t else if t.args.length=0 then t else .mk t.name (t.args.map (iF σ)):=by
 obtain⟨n,l⟩:=t;cases l with
 |nil =>
  by_cases h:e9 n=true<;>simp[iF,hl,I.args,I.name,h]
 |cons t r=>simp[iF,hl,I.args,I.name,azu]
def OL(e:Nat)(H:List ax)(B:Nat)(ord:AV)(ks:List aj):Prop :=
 (ord=.aV 1/\ks=[])\/∃o cs,B<=o/\ord=.bs o 0 ks.length 1/\H[o]?=some (.buf e cs)/\ks.length<=cs.length/\cs.take ks.length=ks.map AV.str
structure OM(e:Nat)(H:List ax)(b1 tid B:Nat)(ord:AV)(im:Nat)(m:List (aj×I))(σ:Sub):Prop where
 b:H[b1]?=some (.cells [.map tid,ord])
 t:H[tid]?=some (.map im (cb I.enc m))
 zs:(b2 m).Nodup
 xC:∀s,getM m s=getM σ s
 o:OL e H B ord (b2 σ)
 ED:b1<B
 EE:tid<B
 EF:B<=H.length
 n4:(b2 σ).Nodup
variable {b1 tid B:Nat}{ord:AV}{m:List (aj×I)}{σ:Sub}
theorem OM.ne{im:Nat}(h:OM e H b1 tid B ord im m σ):b1≠tid:=fun he=>by have:=h.b;rw[he,h.t]at this;cases this
def hX(e:Nat)(H:List ax)(b1 tid B:Nat)(σ:Sub):Prop:=∃ord im m,OM e H b1 tid B ord im m σ
def ja(B b1 tid:Nat)(H H':List ax):Prop:=H.length<=H'.length/\∀i,i<B->i≠b1->i≠tid->H'[i]?=H[i]?
theorem ja.refl(B b1 tid:Nat)(H:List ax):ja B b1 tid H H:=⟨aB9 _,fun _ _ _ _=>rfl⟩
variable {pU:List ax}
theorem ja.trans(d:ja B b1 tid H H')(U:ja B b1 tid H' pU):ja B b1 tid H pU :=
 ⟨Nat.le_trans d.1 U.1,fun i a b c=>(U.2 i a b c).trans (d.2 i a b c)⟩
theorem hX.ex(h:hX e H b1 tid B σ){c:Sub}(d:(b2 c).Nodup):∃H',hX e H' b1 tid B c/\ja B b1 tid H H':=by
 obtain⟨ord,im,m,h⟩:=h;have ae:=h.ED;have f:=h.EE;have fl:=h.EF;have cc:=h.ne
 refine⟨((H.set b1 (.cells [.map tid,.bs H.length 0 (b2 c).length 1])).set tid (.map 0 (cb I.enc c)))++[.buf e ((b2 c).map AV.str)],⟨.bs H.length 0 (b2 c).length 1,0,c,?_,?_,d,fun _=>rfl,.inr ⟨H.length,(b2 c).map AV.str,fl,rfl,?_,by simp,by rw[aIL (by simp)]⟩,ae,f,by simp;omega,d⟩,by simp,fun i ak g U=>?_⟩
 ·grind
 ·grind
 ·rw[eE (by simp)]
 ·grind
theorem hX.app(h:hX e H b1 tid B σ)(l:List ax):hX e (H++l) b1 tid B σ:=by
 obtain⟨ord,im,m,h⟩:=h;refine⟨ord,im,m,by rw[dp (dd h.b)];exact h.b,by rw[dp (dd h.t)];exact h.t,h.zs,h.xC,?_,h.ED,h.EE,by have:=h.EF;simp;omega,h.n4⟩;rcases h.o with h|⟨o,cs,d,U,c,f⟩
 ·exact .inl h
 ·exact .inr ⟨o,cs,d,U,by rw[dp (dd c)];exact c,f⟩
theorem ja.app(fl:B<=H.length)(l:List ax):ja B b1 tid H (H++l):=⟨by simp,fun i ak _ _=>dp (by omega)⟩
theorem EG(σ:List (aj×α))(v:aj)(t:α):b2 (σ++[(v,t)])=b2 σ++[v]:=by simp[b2]
theorem ac5{σ:List (aj×α)}{t:α}(h:getM σ v=none)(s:aj):getM (σ++[(v,t)]) s=if s=v then some t else getM σ s:=by
 induction σ with
 |nil=>simp[getM]|cons p r ih =>
  obtain⟨k,u⟩:=p;simp only[getM]at h;by_cases hk:v=k
  ·simp[hk]at h
  ·rw[if_neg hk]at h;simp only[aIB,getM,ih h];by_cases az:s=k
   ·subst az;simp[Ne.symm hk]
   ·simp[az]
theorem ON(h:(b2 σ).Nodup)(v:aj)(t:I):(b2 (mh σ v t).2).Nodup:=by
 unfold mh;cases c:getM σ v with
 |some u=>exact h|none =>
  simp only[EG];rw[aIF];refine⟨h,by simp,fun a aE b ae=>?_⟩;simp only[aeZ]at ae;subst ae;exact fun he=>getM_none.1 c (he▸aE)
mutual
theorem BJ:∀(p g:I){σ:Sub},(b2 σ).Nodup->(b2 (eF p g σ).2).Nodup
 |.mk n l,g,σ,h=>by
  rw[eF];split
  ·exact ON h _ _
  ·split
   ·exact h
   ·exact ac6 l g.args h
theorem ac6:∀(l m:List I){σ:Sub},(b2 σ).Nodup->(b2 (gh l m σ).2).Nodup
 |p::c,g::gs,σ,h=>by
  rw[gh];split
  ·exact ac6 c gs (BJ p g h)
  ·exact BJ p g h
 |[],_,σ,h=>by simpa[gh]using h|_::_,[],σ,h=>by simpa[gh]using h
end
theorem azv(h:(b2 σ).Nodup)(n:Nat)(s:aj):getM (σ.take n) s=if s∈(b2 σ).drop n then none else getM σ s:=by
 induction σ generalizing n with
 |nil=>simp[getM,b2]|cons p r ih =>
  obtain⟨k,u⟩:=p;simp only[b2,I9,aIM]at h;cases n with
  |zero =>
   simp only[List.take_zero,List.drop_zero];by_cases az:s∈b2 ((k,u)::r)
   ·rw[if_pos az];rfl
   ·rw[if_neg az];exact(getM_none.2 az).symm
  |succ n =>
   have ih:=ih h.2 n;simp only[List.take_succ_cons,getM,b2,I9,List.drop_succ_cons]at ih ⊢;by_cases az:s=k
   ·grind
   ·simp only[if_neg az];exact ih
theorem OO(σ:List (aj×α))(n:Nat):b2 (σ.take n)=(b2 σ).take n:=by simp[b2]
theorem azw(h:cs.take ks.length=ks.map AV.str)(d:ks.length<=cs.length)(ak:i<ks.length):vH 1 i (some (.buf e cs))=some [.str ks[i]!]:=by
 have c:cs[i]?=some (.str ks[i]!):=by
  have:=congrArg (fun l=>l[i]?) h;simp only[List.getElem?_take,ak,if_true,List.getElem?_map,NT ak,aIH]at this;exact this
 rw[Bu,if_pos (by omega)];have U:i<cs.length:=by omega
 rw[List.drop_eq_getElem_cons U];rw[List.getElem?_eq_getElem U]at c;simp[Option.some.inj c]
theorem azx(σ:Sub)(v:aj)(t:I):(mh σ v t).2.length<=σ.length+1:=by
 unfold mh;split<;>simp
mutual
theorem OP:∀(p g:I)(σ:Sub),(eF p g σ).2.length<=σ.length+(dG p).length
 |.mk n l,g,σ=>by
  rw[eF];split
  ·rename_i c;have d:l.length=0:=by simp[hl,I.args]at c;simpa using c.1
   have:=azx σ n g;rw[qI,if_pos (show(I.mk n l).args.length=0 from d)];simpa using this
  ·split
   ·simp
   ·rename_i c _;cases l with
    |nil=>simp[gh]|cons t r =>
     have:=ac7 (t::r) g.args σ;rw[qI];simpa[I.args]using this
theorem ac7:∀(l m:List I)(σ:Sub),(gh l m σ).2.length<=σ.length+(cw l).length
 |p::c,g::gs,σ=>by
  have d:=OP p g σ;rw[gh];simp only[cw,fM];split
  ·have:=ac7 c gs (eF p g σ).2;omega
  ·simp only;omega
 |[],_,σ=>by simp[gh]|_::_,[],σ=>by simp[gh]
end
theorem azy:∀t:I,1<=(dG t).length:=I.ind fun t ih=>by
 rw[qI];split
 ·simp
 ·cases c:t.args with
  |nil=>rename_i h;rw[c]at h;exact absurd rfl h|cons u r =>
   have:=ih u (by rw[c];simp);simp only[cw,fM];omega
theorem ac8:∀l:List I,l.length<=(cw l).length
 |[]=>by simp|t::r=>by have:=azy t;have:=ac8 r;simp only[cw,fM,aB5];omega
theorem azz(h:i<l.length):(cw (l.drop i)).length=(dG l[i]!).length+(cw (l.drop (i+1))).length:=by
 rw[fY h];simp only[cw,fM]
def qN(S:List I)(σ:Sub)(l:Lit):Bool :=
 if(iF σ l.atom).name==hW&&decide ((iF σ l.atom).args.length=2)then !((cf (iF σ l.atom).args[0]! (iF σ l.atom).args[1]! != 0)==l.neg)else(!kc S (iF σ l.atom))==l.neg
def hz(S:List I)(rest:List Lit)(hd:I):List Lit->Sub->List I
 |[],σ=>if rest.all (qN S σ)=true then[iF σ hd]else[]|l::gE,σ=>(iE S l.atom.name).flatMap fun a=>if(eF l.atom a σ).1=true then hz S rest hd gE (eF l.atom a σ).2 else[]
def o9(S:List I)(r:aU):List I:=hz S (r.body.filter fun l=>!eX l) r.head (r.body.filter eX) []
theorem gq.app(h:gq e H x k b S)(l:List ax):gq e (H++l) x k b S:=by
 obtain⟨n,m,km,bj,aA,c⟩:=h;exact⟨n,m,km,bj,⟨by rw[dp (dd aA.ah)];exact aA.ah,by rw[dp (dd aA.hk)];exact aA.hk,by rw[dp (dd aA.ae)];exact aA.ae,aA.cc⟩,c⟩
structure jb(zu w:AV)(c3:List Lit):Prop where
 no:zu.aW=w
 Ir:w.aW=w
 len:∀H,nz 1 H w=some (.int .i64 (c3.length:Int))
 mw:∀i:Nat,i<c3.length->Bv 3 w (.int .i64 i)=some (.db c3[i]!.enc.cells)
theorem jb.nil:jb (.aV 3) (.aV 3) []:=⟨rfl,rfl,fun _=>rfl,fun i h=>by simp at h⟩
theorem jb.list(o:Option Nat)(c3:List Lit):jb (.list o 3 (c3.map Lit.enc)) (.list none 3 (c3.map Lit.enc)) c3:=⟨rfl,rfl,fun H=>by rw[abi,aIC],fun i h=>by
 have c:(3=3/\(0:Int)<=(i:Int)/\(i:Int)<((c3.map Lit.enc).length:Int)):=⟨rfl,by omega,by rw[aIC];omega⟩;rw[abj,if_pos c,Int.toNat_natCast,abv h];rfl⟩
theorem OL.len(h:OL e H B ord ks):ord.aW=ord/\∀H,nz 1 H ord=some (.int .i64 (ks.length:Int)):=by
 rcases h with⟨rfl,rfl⟩|⟨o,cs,_,rfl,_⟩
 ·exact⟨rfl,fun _=>rfl⟩
 ·exact⟨rfl,fun _=>rfl⟩
theorem azQ(σ:Sub)(v:aj)(t:I):(mh σ v t).2.take σ.length=σ:=by
 unfold mh;split<;>simp
mutual
theorem Is:∀(p g:I)(σ:Sub),(eF p g σ).2.take σ.length=σ
 |.mk n l,g,σ=>by
  rw[eF];split
  ·exact azQ _ _ _
  ·split
   ·simp
   ·exact OT l g.args σ
theorem OT:∀(l m:List I)(σ:Sub),(gh l m σ).2.take σ.length=σ
 |p::d,g::gs,σ=>by
  have c:=Is p g σ;rw[gh];split
  ·have U:=OT d gs (eF p g σ).2;have f:σ.length<=(eF p g σ).2.length:=by
    have:=congrArg List.length c;rw[List.length_take]at this;omega
   have:=congrArg (fun l=>l.take σ.length) U;simp only[List.take_take,Nat.min_eq_left f,c]at this;exact this
  ·exact c
 |[],_,σ=>by simp[gh]|_::_,[],σ=>by simp[gh]
end
theorem azR(p g:I)(σ:Sub):σ.length<=(eF p g σ).2.length:=by
 have:=congrArg List.length (Is p g σ);rw[List.length_take]at this;omega
def lN(W:Nat->Prop)(H H':List ax):Prop:=H.length<=H'.length/\∀i,i<H.length->¬W i->H'[i]?=H[i]?
structure mV(qQ bu oo:Nat)(S:List I)(c3 dq:List Lit)(y:AV)(dy:AV)(A B x k b ga rs gi eJ gj da b1 tid:Nat)(H:List ax):Prop where
 OU:gq qQ H x k b S
 It:∃zu w,H[ga]?=some (.cells [zu])/\jb zu w c3
 adl:∃zu w,H[rs]?=some (.cells [zu])/\jb zu w dq
 ce:H[gi]?=some (.cells [.ptr x 0])
 zv:H[eJ]?=some (.cells [.ptr b1 0])
 adm:H[gj]?=some (.cells [y])
 OV:H[da]?=some (.cells [dy])
 xE:x<A/\k<A/\b<A/\A<=ga/\A<=rs/\A<=gi/\A<=eJ/\A<=gj/\A<=da/\ga<B/\rs<B/\gi<B/\eJ<B/\gj<B/\da<B/\A<=B/\B<=H.length/\A<=b1/\A<=tid
 adn:ga≠b1/\ga≠tid/\rs≠b1/\rs≠tid/\gi≠b1/\gi≠tid/\eJ≠b1/\eJ≠tid/\gj≠b1/\gj≠tid/\da≠b1/\da≠tid
variable {qQ bu oo:Nat}{c3 dq:List Lit}{y dy:AV}{A ga rs gi eJ gj da:Nat}
theorem mV.of(h:mV qQ bu oo S c3 dq y dy A B x k b ga rs gi eJ gj da b1 tid H)
  (Z:H.length<=H'.length)(ah:H'[x]?=H[x]?)(hk:H'[k]?=H[k]?)(ae:H'[b]?=H[b]?)(he:∀i,A<=i->i<B->i≠b1->i≠tid->H'[i]?=H[i]?):mV qQ bu oo S c3 dq y dy A B x k b ga rs gi eJ gj da b1 tid H':=by
 obtain⟨G,J,K,o,p,q,r,s,u,w,z,C,D,E,F,O,m8,P,c⟩:=h.xE;obtain⟨Q,R,T,U,V,W,X,Y,d,f,g,j⟩:=h.adn;refine⟨h.OU.of ah hk ae,?_,?_,?_,?_,?_,?_,⟨G,J,K,o,p,q,r,s,u,w,z,C,D,E,F,O,by omega,P,c⟩,h.adn⟩
 ·rw[he ga o w Q R];exact h.It
 ·rw[he rs p z T U];exact h.adl
 ·rw[he gi q C V W];exact h.ce
 ·rw[he eJ r D X Y];exact h.zv
 ·rw[he gj s E d f];exact h.adm
 ·rw[he da u F g j];exact h.OV
theorem mV.zz(h:mV qQ bu oo S c3 dq y dy A B x k b ga rs gi eJ gj da b1 tid H)(c:ja B b1 tid H H'):mV qQ bu oo S c3 dq y dy A B x k b ga rs gi eJ gj da b1 tid H':=by
 obtain⟨j,o,p,q,r,s,u,w,z,C,D,E,F,G,J,K,O,P,d⟩:=h.xE;exact h.of c.1 (c.2 x (by omega) (by omega) (by omega)) (c.2 k (by omega) (by omega) (by omega)) (c.2 b (by omega) (by omega) (by omega)) fun i _ U f g=>c.2 i U f g
variable {W:Nat->Prop}
theorem mV.EL(h:mV qQ bu oo S c3 dq y dy A B x k b ga rs gi eJ gj da b1 tid H)(c:lN W H H')
  (d:∀i,W i->i<A/\i≠x/\i≠k/\i≠b):mV qQ bu oo S c3 dq y dy A B x k b ga rs gi eJ gj da b1 tid H':=by
 obtain⟨g,j,o,p,q,r,s,u,z,C,D,E,F,G,J,K,O,P,f⟩:=h.xE;exact h.of c.1 (c.2 x (by omega) fun w=>(d x w).2.1 rfl) (c.2 k (by omega) fun w=>(d k w).2.2.1 rfl) (c.2 b (by omega) fun w=>(d b w).2.2.2 rfl) fun i Q U _ _=>c.2 i (by omega) fun w=>by have:=(d i w).1;omega
theorem hX.EL(h:hX e H b1 tid B σ)(c:lN W H H')(d:∀i,W i->i<A)(s:A<=b1)(U:A<=tid)(u:A<=B):hX e H' b1 tid B σ:=by
 obtain⟨ord,im,m,h⟩:=h;have g:=dd h.b;have j:=dd h.t
 refine⟨ord,im,m,by rw[c.2 b1 g fun w=>by have:=d _ w;omega];exact h.b,by rw[c.2 tid j fun w=>by have:=d _ w;omega];exact h.t,h.zs,h.xC,?_,h.ED,h.EE,by have:=h.EF;have:=c.1;omega,h.n4⟩;rcases h.o with h|⟨o,cs,p,q,f,r⟩
 ·exact .inl h
 ·exact .inr ⟨o,cs,p,q,by rw[c.2 o (dd f) fun w=>by have:=d _ w;omega];exact f,r⟩
def lO(A:Nat)(W:Nat->Prop)(H H':List ax):Prop:=H.length<=H'.length/\∀i,i<A->¬W i->H'[i]?=H[i]?
theorem lO.refl(A:Nat)(W:Nat->Prop)(H:List ax):lO A W H H:=⟨aB9 _,fun _ _ _=>rfl⟩
theorem lO.trans(c:lO A W H H')(U:lO A W H' pU):lO A W H pU:=⟨Nat.le_trans c.1 U.1,fun i a b=>(U.2 i a b).trans (c.2 i a b)⟩
theorem ja.zA(h:ja B b1 tid H H')(c:A<=b1)(U:A<=tid)(d:A<=B)(W:Nat->Prop):lO A W H H':=⟨h.1,fun i ak _=>h.2 i (by omega) (by omega) (by omega)⟩
theorem lN.zA(h:lN W H H')(cq:A<=H.length):lO A W H H':=⟨h.1,fun i ak c=>h.2 i (by omega) c⟩
theorem lO.app(cq:A<=H.length)(l:List ax):lO A W H (H++l):=⟨by simp,fun i ak _=>dp (by omega)⟩
theorem lN.refl(W:Nat->Prop)(H:List ax):lN W H H:=⟨aB9 _,fun _ _ _=>rfl⟩
theorem lN.trans(c:lN W H H')(U:lN W H' pU):lN W H pU:=⟨Nat.le_trans c.1 U.1,fun i a b=>(U.2 i (by have:=c.1;omega) b).trans (c.2 i a b)⟩
structure EM(S:List I)(c3 dq:List Lit)(hd:I)(Good:I->Prop)(oq:Sub->Prop):Prop where
 m:∀σ l a,oq σ->l∈c3->a∈S->(eF l.atom a σ).1=true->oq (eF l.atom a σ).2
 t:∀σ l,oq σ->l∈dq->(cy (iF σ l.atom)).length<=M
 h:∀σ,oq σ->Good (iF σ hd)
 l:∀σ,oq σ->σ.length<=100000
 azT:∀l∈c3,(dG l.atom).length<=100000
 OX:∀l∈dq,qM l.atom<=100000
 hm:qM hd<=100000
 ado:c3.length<=100000
 GQ:dq.length<=100000
 adp:S.length<=100000
theorem Iu{n:aj}(h:a∈iE S n):a∈S:=(aHW.1 h).1
theorem azU(S:List I)(n:aj):(iE S n).length<=S.length:=aIQ _ _
theorem OY{hd:I}{Good:I->Prop}{oq:Sub->Prop}(h5:EM S c3 dq hd Good oq):∀(d:List Lit)(σ:Sub),(∀l∈d,l∈c3)->oq σ->∀a∈hz S dq hd d σ,Good a
 |[],σ,_,aA,a,aE=>by
  rw[hz]at aE;split at aE
  ·rw[aeZ]at aE;rw[aE];exact h5.h σ aA
  ·cases aE
 |l::d,σ,f,aA,a,aE=>by
  rw[hz,aID]at aE;obtain⟨c,g,aE⟩:=aE;split at aE
  ·rename_i hm;exact OY h5 d _ (fun l h=>f l (aHk _ h)) (h5.m σ l c aA (f l (aHV ..)) (Iu g) hm) a aE
  ·cases aE
def clean(s:aj):Prop:=∀c∈s,c≠40/\c≠41/\c≠44
mutual
def mi:I->Prop|.mk n l=>clean n/\pZ l
def pZ:List I->Prop|[]=>True|t::r=>mi t/\pZ r
end
theorem aAk(l:List I):pZ l↔∀t∈l,mi t:=by
 induction l with
 |nil=>simp[pZ]|cons t r ih=>simp[pZ,ih]
def BP(r:aj):Prop:=∀c q,r=c::q->c=41\/c=44
def IM(r:aj):Prop:=∀c q,r=c::q->c=40\/c=41\/c=44
theorem BP.IN{r:aj}(h:BP r):IM r:=fun c q e=>.inr (h c q e)
theorem BQ:∀{s t u v:aj},clean s->clean t->IM u->IM v->s++u=t++v->s=t/\u=v
 |[],[],_,_,_,_,_,_,h=>⟨rfl,h⟩|[],c::t,u,v,_,f,hu,_,h=>by
  have:=hu c (t++v) h;have:=f c (aHV ..);simp_all
 |c::s,[],u,v,az,_,_,g,h=>by
  have:=g c (s++u) h.symm;have:=az c (aHV ..);simp_all
 |c::s,d::t,u,v,az,f,hu,g,h=>by
  simp only[aIB,List.cons.injEq]at h;obtain⟨rfl,h⟩:=h;obtain⟨rfl,rfl⟩:=BQ (fun x ah=>az x (aHk _ ah)) (fun x ah=>f x (aHk _ ah)) hu g h;exact⟨rfl,rfl⟩
theorem BR(r:aj):IM (40::r):=fun c q e=>by simp at e;exact .inl e.1.symm
theorem aAl(r:aj):BP (41::r):=fun c q e=>by simp at e;exact .inl e.1.symm
theorem IP(l:List I)(r:aj):BP (iY l++41::r):=by
 cases l with
 |nil=>exact aAl r|cons t l=>intro c q e;simp[iY]at e;exact .inr e.1.symm
mutual
theorem O7:∀(t u:I){r r':aj},mi t->mi u->BP r->BP r'->cy t++r=cy u++r'->t=u/\r=r'
 |.mk n [],.mk m [],r,r',h1,U,c,d,h=>by
  simp only[mi]at h1 U;simp only[cy]at h;obtain⟨rfl,rfl⟩:=BQ h1.1 U.1 c.IN d.IN h;exact⟨rfl,rfl⟩
 |.mk n [],.mk m (u::f),r,r',h1,U,c,d,h=>by
  simp only[mi]at h1 U;simp only[cy,aIE,aIB]at h;obtain⟨rfl,e⟩:=BQ h1.1 U.1 c.IN (BR _) h;have:=c _ _ e;simp at this
 |.mk n (t::l),.mk m [],r,r',h1,U,c,d,h=>by
  simp only[mi]at h1 U;simp only[cy,aIE,aIB]at h;obtain⟨rfl,e⟩:=BQ h1.1 U.1 (BR _) d.IN h;have:=d _ _ e.symm;simp at this
 |.mk n (t::l),.mk m (u::f),r,r',h1,U,c,d,h=>by
  simp only[mi,pZ]at h1 U;simp only[cy,aIE,aIB]at h;obtain⟨rfl,e⟩:=BQ h1.1 U.1 (BR _) (BR _) h;simp only[List.cons.injEq,true_and,List.nil_append]at e;obtain⟨rfl,g⟩:=O7 t u h1.2.1 U.2.1 (IP _ _) (IP _ _) e;obtain⟨rfl,rfl⟩:=adH l f h1.2.2 U.2.2 g;exact⟨rfl,rfl⟩
theorem adH:∀(l m:List I){r r':aj},pZ l->pZ m->iY l++41::r=iY m++41::r'->l=m/\r=r'
 |[],[],r,r',_,_,h=>by simpa[iY]using h|[],u::m,r,r',_,_,h=>by simp[iY]at h|t::l,[],r,r',_,_,h=>by simp[iY]at h|t::l,u::m,r,r',h1,U,h=>by
  simp only[pZ]at h1 U;simp only[iY,aIB,aIE,List.cons.injEq,true_and]at h;obtain⟨rfl,e⟩:=O7 t u h1.1 U.1 (IP _ _) (IP _ _) h;obtain⟨rfl,rfl⟩:=adH l m h1.2 U.2 e;exact⟨rfl,rfl⟩
end
variable {t u:I}
theorem O8(d:mi t)(U:mi u)(h:cy t=cy u):t=u :=
 (O7 t u (r:=[]) (r':=[]) d U (fun c q e=>by cases e) (fun c q e=>by cases e) (by rw[h])).1
variable {s:aj}{a b c:Nat×Nat}
theorem adI(h:oh s a b c=true):s.length<=16:=by
 unfold oh at h;split at h
 ·cases h
 ·grind
theorem adJ(h:oh s a b c=true):∀x∈s,jn x [a,b,c]=true:=by
 unfold oh at h;split at h
 ·cases h
 ·grind
theorem adK{x:UInt8}(h:jn x [a,b,c]=true)(aE:44<a.1)(ae:44<b.1)(d:44<c.1):x≠40/\x≠41/\x≠44:=by
 simp only[jn,List.any_cons,List.any_nil,Bool.or_false,aIG,LW,decide_eq_true_eq]at h;have:44<x.toNat:=by omega
 refine⟨?_,?_,?_⟩<;>(intro e;rw[e]at this;revert this;decide)
theorem adL(h:fo s=true):oh s (97,122) (48,57) (45,45)=true:=by
 simp only[fo,LW]at h;exact h.1.1.1
def xI(s:aj):Bool:=fo s||(hh s).isSome||e9 s
theorem adM(h:(hh s).isSome=true):s.length<=4/\s.all hv=true:=by
 unfold hh at h;split at h
 ·cases h
 ·grind
theorem aAm(h:xI s=true):s.length<=16:=by
 simp only[xI,aIG]at h;rcases h with(h|h)|h
 ·exact adI (adL h)
 ·have:=(adM h).1;omega
 ·exact adI h
theorem aAn(h:xI s=true):clean s:=by
 simp only[xI,aIG]at h;intro x ah;rcases h with(h|h)|h
 ·exact adK (adJ (adL h) x ah) (by decide) (by decide) (by decide)
 ·have:=ae0.1 (adM h).2 x ah;simp only[hv,LW,decide_eq_true_eq]at this;have:44<x.toNat:=by omega
  refine⟨?_,?_,?_⟩<;>(intro e;rw[e]at this;revert this;decide)
 ·exact adK (adJ h x ah) (by decide) (by decide) (by decide)
theorem aAo(h:fo s=true):xI s=true:=by simp[xI,h]
theorem xJ(n:Nat)(t:I)(v:Bool):ct (n+1) t v=(decide (t.args.length<=4)&&(if t.args.length=0 then fo t.name||(hh t.name).isSome||(v&&e9 t.name)else t.args.all (fun u=>ct n u v)&&fo t.name)):=rfl
variable {v:Bool}
theorem sX(h:ct (n+1) t v=true):t.args.length<=4/\xI t.name=true/\(∀u∈t.args,ct n u v=true)/\(t.args.length=0->v=false->e9 t.name=true->(fo t.name||(hh t.name).isSome)=true)/\(t.args.length≠0->fo t.name=true):=by
 rw[xJ]at h;simp only[LW,decide_eq_true_eq]at h;refine⟨h.1,?_⟩;by_cases d:t.args.length=0
 ·rw[if_pos d]at h;have g:t.args=[]:=List.eq_nil_of_length_eq_zero d;refine⟨?_,fun u(f:u∈t.args)=>(by rw[g]at f;cases f),fun _ j _=>?_,fun h=>absurd d h⟩
  ·have:=h.2;simp only[aIG,LW]at this;simp only[xI,aIG];rcases this with h|h
   ·exact .inl h
   ·exact .inr h.2
  ·have:=h.2;rw[j]at this;simpa using this
 ·rw[if_neg d]at h;simp only[LW]at h;exact⟨aAo h.2.2,ae0.1 h.2.1,fun h=>absurd h d,fun _=>h.2.2⟩
theorem xK :∀{n m:Nat}{t:I},ct n t v=true->n<=m->ct m t v=true
 |0,_,_,h,_=>by cases h|n+1,m+1,t,h,hm=>by
  rw[xJ]at h ⊢;simp only[LW,decide_eq_true_eq]at h ⊢;refine⟨h.1,?_⟩;by_cases d:t.args.length=0
  ·rw[if_pos d]at h ⊢;exact h.2
  ·rw[if_neg d]at h ⊢;simp only[LW]at h ⊢;exact⟨ae0.2 fun u f=>xK (ae0.1 h.2.1 u f) (by omega),h.2.2⟩
theorem adN:∀{n:Nat}{t:I},ct n t false=true->ct n t true=true
 |0,_,h=>by cases h|n+1,t,h=>by
  rw[xJ]at h ⊢;simp only[LW,decide_eq_true_eq]at h ⊢;refine⟨h.1,?_⟩;by_cases d:t.args.length=0
  ·grind
  ·rw[if_neg d]at h ⊢;simp only[LW]at h ⊢;exact⟨ae0.2 fun u f=>adN (ae0.1 h.2.1 u f),h.2.2⟩
theorem sY :∀{n:Nat}{t:I},ct n t v=true->mi t
 |0,_,h=>by cases h|n+1,.mk s l,h=>by
  have:=sX h;simp only[mi];exact⟨aAn this.2.1,(aAk l).2 fun u d=>sY (this.2.2.1 u d)⟩
theorem EP :∀{n:Nat}{t:I},ct n t v=true->qM t<=4
 |0,_,h=>by cases h|n+1,t,h=>by
  have:=sX h;rw[H9];have:=Es (l:=t.args) (n:=4) fun u d=>EP (this.2.2.1 u d);omega
variable {b:Nat}
theorem adO :∀(l:List I),(∀u∈l,(cy u).length<=b)->(iY l).length<=l.length*(b+1)
 |[],_=>by simp[iY]|t::r,h=>by
  have f:=h t (aHV ..);have U:=adO r fun u d=>h u (aHk _ d);simp only[iY,aB5,fM,Nat.add_mul,Nat.one_mul]at *;omega
theorem aAp(l:List I)(h:∀u∈l,(cy u).length<=b):(jW l).length<=l.length*(b+1):=by
 cases l with
 |nil=>simp[jW]|cons t r =>
  have:=adO (t::r) h;simp only[iY,jW,aB5,fM]at *;omega
theorem adP :∀{n:Nat}{t:I},ct n t v=true->(cy t).length+8<=24*4 ^ n
 |0,_,h=>by cases h|n+1,t,h=>by
  have d:=sX h;have g:=aAm d.2.1;have ao:1<=4 ^ n:=Nat.pow_pos (by decide);rw[acy,Nat.pow_succ];split
  ·omega
  ·have j:=aAp (b:=24*4 ^ n-8) t.args fun u f=>by have:=adP (d.2.2.1 u f);omega
   have U:t.args.length*(24*4 ^ n-8+1)<=4*(24*4 ^ n-8+1):=aIR _ d.1;simp only[fM,aB5,List.length_nil];omega
theorem BS(h:ct n t v=true)(d:n<=8):(cy t).length<=M:=by
 have f:=adP (xK h d);have:M=1099511627776:=rfl;have:(4:Nat) ^ 8=65536:=rfl;omega
theorem IQ :∀(l:List I),(∀u∈l,(dG u).length<=b)->(cw l).length<=l.length*b
 |[],_=>by simp[cw]|t::r,h=>by
  have f:=h t (aHV ..);have U:=IQ r fun u d=>h u (aHk _ d);simp only[cw,aB5,fM,Nat.add_mul,Nat.one_mul];omega
theorem IS :∀{n:Nat}{t:I},ct n t v=true->(dG t).length<=4 ^ n
 |0,_,h=>by cases h|n+1,t,h=>by
  have d:=sX h;have ao:1<=4 ^ n:=Nat.pow_pos (by decide);rw[qI,Nat.pow_succ];split
  ·grind
  ·have g:=IQ (b:=4 ^ n) t.args fun u f=>IS (d.2.2.1 u f);have U:t.args.length*4 ^ n<=4*4 ^ n:=aIR _ d.1;omega
theorem O9 :∀{n:Nat}{t:I},ct n t v=true->∀{m:Nat},c0 t<=m->ct m t v=true
 |0,_,h,_,_=>by cases h|n+1,t,h,m,hd=>by
  have g:=sX h;rw[vI]at hd;obtain⟨m,rfl⟩:∃k,m=k+1:=⟨m-1,by omega⟩;rw[xJ]at h ⊢;simp only[LW,decide_eq_true_eq]at h ⊢;refine⟨h.1,?_⟩;by_cases d:t.args.length=0
  ·rw[if_pos d]at h ⊢;exact h.2
  ·rw[if_neg d]at h ⊢;simp only[LW]at h ⊢;exact⟨ae0.2 fun u f=>O9 (g.2.2.1 u f) (by have:=Bz f;omega),h.2.2⟩
theorem aAq:∀(t:I){n:Nat},lK t=false->me t=false->c0 t<=n->ct n t true=true:=I.ind fun t ih n d U g=>by
 rw[acw]at d;rw[acx]at U;rw[vI]at g;obtain⟨n,rfl⟩:∃k,n=k+1:=⟨n-1,by omega⟩;simp only[Bool.or_eq_false_iff,decide_eq_false_iff_not]at U;rw[xJ];simp only[LW,decide_eq_true_eq];refine⟨by omega,?_⟩;by_cases h:t.args.length=0
 ·grind
 ·rw[if_neg h]at d ⊢;simp only[Bool.or_eq_false_iff,Bool.not_eq_false']at d;simp only[LW];refine⟨ae0.2 fun u f=>ih u f ?_ ?_ (by have:=Bz f;omega),d.1⟩
  ·grind
  ·grind
variable {h:Bool}
theorem adQ(he:mf t h=0):ct 4 t true=true/\fo t.name=true:=by
 unfold mf at he;by_cases d:(!fo t.name||lK t)=true
 ·rw[if_pos d]at he;cases he
 ·rw[if_neg d]at he;simp only[aIG,not_or,Bool.not_eq_true,Bool.not_eq_false']at d;have f:me t=false:=by grind
  by_cases hd:4<c0 t
  ·grind
  ·exact⟨aAq t d.2 f (by omega),d.1⟩
theorem Pa:∀{l:List I}{h:Bool},rO l h=0->∀a∈l,∃h,mf a h=0
 |[],_,_,a,aE=>by cases aE|t::r,h,he,a,aE=>by
  rw[rO]at he;split at he
  ·rename_i d;rcases aII.1 aE with rfl|aE
   ·exact⟨_,d⟩
   ·exact Pa he a aE
  ·rename_i d;exact absurd he d
structure mj(r:aU):Prop where
 b:r.body.length<=8
 a:∀a∈fU r,ct 4 a true=true/\fo a.name=true
 s:rN r=true
variable {r:aU}
theorem aAr(h:h6 r=0):mj r:=by
 unfold h6 at h;split at h
 ·cases h
 ·rename_i f;split at h
  ·rename_i U;exact absurd h U
  ·rename_i U;split at h
   ·cases h
   ·split at h
    ·cases h
    ·rename_i d;refine⟨by omega,fun a aE=>?_,by simpa using d⟩;obtain⟨_,q⟩:=Pa (by simpa using U) a aE;exact adQ q
theorem adR(v:aj):∀(l out:List aj),v∈l.foldl mb out↔v∈out\/(v∈l/\e9 v=true)
 |[],out=>by simp|s::l,out=>by
  rw[aIO,adR v l];unfold mb;cases d:e9 s<;>cases f:out.contains s
  ·grind
  ·grind
  ·grind
  ·grind
theorem adS(l:List I)(v:aj):v∈nD l↔v∈cw l/\e9 v=true:=by
 rw[nD,qJ,adR];simp
variable {v:aj}
theorem ER :v∈cw l↔∃t∈l,v∈dG t:=by rw[awI,aID]
theorem mj.safe(h:mj r)(d:v∈dG r.head)(U:e9 v=true):∃l∈r.body.filter eX,v∈dG l.atom:=by
 have az:=h.s;unfold rN at az;have f:=ae0.1 az v ((adS _ _).2 ⟨ER.2 ⟨r.head,by simp[zm],d⟩,U⟩);have g:=(adS _ _).1 (aIJ.1 f);obtain⟨t,j,o⟩:=ER.1 g.1;obtain⟨l,p,rfl⟩:=Ja.1 j;exact⟨l,p,o⟩
theorem Pb :∀(σ d:List (aj×α))(v:aj),(getM σ v).isSome=true->(getM (σ++d) v).isSome=true
 |[],_,_,h=>by simp[getM]at h|(k,u)::r,d,v,h=>by
  simp only[getM,aIB]at h ⊢;by_cases f:v=k
  ·rw[if_pos f];rfl
  ·rw[if_neg f]at h ⊢;exact Pb r d v h
theorem adT{σ d:List α}(h:d.take σ.length=σ):∃b4,d=σ++b4:=⟨d.drop σ.length,by conv=>lhs;rw[<-List.take_append_drop σ.length d,h]⟩
theorem adU{p g:I}(h:(getM σ v).isSome=true):(getM (eF p g σ).2 v).isSome=true:=by
 obtain⟨b4,d⟩:=adT (Is p g σ);rw[d];exact Pb σ b4 v h
theorem aAs{m:List I}(h:(getM σ v).isSome=true):(getM (gh l m σ).2 v).isSome=true:=by
 obtain⟨b4,d⟩:=adT (OT l m σ);rw[d];exact Pb σ b4 v h
mutual
theorem Pc:∀(p g:I)(σ:Sub),(eF p g σ).1=true->∀v∈dG p,e9 v=true->(getM (eF p g σ).2 v).isSome=true
 |.mk n [],g,σ,h,v,d,f=>by
  have:v=n:=by simpa[dG]using d
  subst this;have j:hl (.mk v [])=true:=by simp[hl,I.args,I.name,f]
  rw[eF,if_pos j];unfold mh;cases o:getM σ v with
  |some u=>simp only;rw[o];rfl|none=>simp only;rw[ac5 o,if_pos rfl];rfl
 |.mk n (t::l),g,σ,h,v,d,f=>by
  have j:¬hl (.mk n (t::l))=true:=by simp[hl,I.args]
  rw[eF,if_neg j]at h ⊢;split at h
  ·cases h
  ·rename_i q;rw[if_neg q];have w:(t::l).length<=g.args.length:=by have:=fun h=>q (.inr h);omega
   exact adV (t::l) g.args σ w h v (by simpa[dG,cw]using d) f
theorem adV:∀(l m:List I)(σ:Sub),l.length<=m.length->(gh l m σ).1=true->∀v∈cw l,e9 v=true->(getM (gh l m σ).2 v).isSome=true
 |[],_,_,_,_,v,d,_=>by simp[cw]at d|_::_,[],_,f,_,_,_,_=>by simp at f|p::o,g::gs,σ,f,h,v,d,j=>by
  rw[gh]at h ⊢;split at h
  ·rename_i hm;rw[if_pos hm];simp only[cw,TH]at d;rcases d with d|d
   ·exact aAs (Pc p g σ hm v d j)
   ·exact adV o gs _ (by simpa using f) h v d j
  ·cases h
end
def qR(σ:Sub):Prop:=∀p∈σ,ct 4 p.2 false=true
theorem qR.get(h:qR σ)(d:getM σ v=some u):ct 4 u false=true:=by
 induction σ with
 |nil=>simp[getM]at d|cons p r ih =>
  obtain⟨k,w⟩:=p;simp only[getM]at d;split at d
  ·simp only[Option.some.injEq]at d;subst d;exact h (k,w) (aHV ..)
  ·exact ih (fun p ao=>h p (aHk _ ao)) d
theorem aAt(h:qR σ)(v:aj)(d:ct 4 t false=true):qR (mh σ v t).2:=by
 unfold mh;cases getM σ v with
 |some u=>exact h|none =>
  intro p ao;rcases TH.1 ao with ao|ao
  ·exact h p ao
  ·grind
mutual
theorem IT:∀(p g:I){σ:Sub},qR σ->ct 4 g false=true->qR (eF p g σ).2
 |.mk n l,g,σ,h,d=>by
  rw[eF];split
  ·exact aAt h _ d
  ·split
   ·exact h
   ·exact adW l g.args h fun u f=>xK ((sX d).2.2.1 u f) (by omega)
theorem adW:∀(l m:List I){σ:Sub},qR σ->(∀u∈m,ct 4 u false=true)->qR (gh l m σ).2
 |p::f,g::gs,σ,h,hm=>by
  rw[gh];have d:=IT p g h (hm g (aHV ..));split
  ·exact adW f gs d fun u j=>hm u (aHk _ j)
  ·exact d
 |[],_,σ,h,_=>by simpa[gh]using h|_::_,[],σ,h,_=>by simpa[gh]using h
end
mutual
theorem Pd:∀(p g:I)(σ:Sub)(k:aj),k∈b2 (eF p g σ).2->k∈b2 σ\/k∈dG p
 |.mk n l,g,σ,k,h=>by
  rw[eF]at h;split at h
  ·rename_i d;have j:l=[]:=by simp[hl,I.args]at d;simpa using d.1
   subst j;unfold mh at h;cases f:getM σ n with
   |some u=>rw[f]at h;exact .inl h|none =>
    rw[f]at h;simp only[EG,TH,aeZ]at h;rcases h with h|rfl
    ·exact .inl h
    ·exact .inr (by simp[dG])
  ·split at h
   ·exact .inl h
   ·rcases adX l g.args σ k h with h|h
    ·exact .inl h
    ·refine .inr ?_;cases l with
     |nil=>simp[cw]at h|cons t r=>simpa[dG,cw]using h
theorem adX:∀(l m:List I)(σ:Sub)(k:aj),k∈b2 (gh l m σ).2->k∈b2 σ\/k∈cw l
 |p::d,g::gs,σ,k,h=>by
  rw[gh]at h;simp only[cw,TH];split at h
  ·rcases adX d gs _ k h with h|h
   ·rcases Pd p g σ k h with h|h
    ·exact .inl h
    ·exact .inr (.inl h)
   ·exact .inr (.inr h)
  ·rcases Pd p g σ k h with h|h
   ·exact .inl h
   ·exact .inr (.inl h)
 |[],_,σ,k,h=>.inl (by simpa[gh]using h)|_::_,[],σ,k,h=>.inl (by simpa[gh]using h)
end
variable {v:Bool}
theorem ES(o:qR σ):∀{n:Nat}{p:I},ct n p true=true->(v=false->∀x∈dG p,e9 x=true->(getM σ x).isSome=true)->ct (n+4) (iF σ p) v=true
 |0,_,h,_=>by cases h|n+1,p,h,ae=>by
  have g:=sX h;rw[OK];by_cases f:hl p=true
  ·rw[if_pos f];have q:p.args.length=0/\e9 p.name=true:=by simpa[hl]using f
   cases z:getM σ p.name with
   |some u =>
    have C:=o.get z;cases v with
    |false=>exact xK C (by omega)|true=>exact xK (adN C) (by omega)
   |none =>
    cases v with
    |false =>
     have:=ae rfl p.name (by rw[qI,if_pos q.1];simp) q.2;rw[z]at this;cases this
    |true=>exact xK h (by omega)
  ·rw[if_neg f];by_cases d:p.args.length=0
   ·rw[if_pos d];cases v with
    |true=>exact xK h (by omega)|false =>
     have j:e9 p.name=false:=by simpa[hl,d]using f
     rw[xJ]at h;rw[show n+1+4=(n+4)+1 by omega,xJ];simp only[d,if_true,j,Bool.and_false,Bool.or_false]at h ⊢;exact h
   ·rw[if_neg d];have E:fo p.name=true:=g.2.2.2.2 d;have F:∀L:List I,ct (n+1+4) (.mk p.name L) v=(decide (L.length<=4)&&(if L.length=0 then fo p.name||(hh p.name).isSome||(v&&e9 p.name)else L.all (fun u=>ct (n+4) u v)&&fo p.name)):=fun L=>by
     rw[show n+1+4=(n+4)+1 by omega];rfl
    rw[F];simp only[aIC,d,if_false,E,Bool.and_true,LW,decide_eq_true_eq];refine⟨g.1,ae0.2 fun u G=>?_⟩;obtain⟨w,D,rfl⟩:=Ja.1 G;exact ES o (g.2.2.1 w D) fun f x ah J=>ae f x (by rw[qI,if_neg d];exact ER.2 ⟨w,D,ah⟩) J
def iq(S:List I):Prop:=∀a∈S,ct 4 a false=true
theorem adY(dg:iq S)(o:mj r):∀(j:List Lit)(σ:Sub),qR σ->(∀v,e9 v=true->(∃l∈r.body.filter eX,v∈dG l.atom)->(getM σ v).isSome=true\/∃l∈j,v∈dG l.atom)->∀dq,∀h∈hz S dq r.head j σ,ct 8 h false=true
 |[],σ,p,ae,dq,h,d=>by
  rw[hz]at d;split at d
  ·rw[aeZ]at d;subst d;refine ES (n:=4) p (o.a _ (by simp[fU])).1 fun _ x ah f=>?_;rcases ae x f (o.safe ah f)with h|⟨_,h,_⟩
   ·exact h
   ·cases h
  ·cases d
 |l::j,σ,p,ae,dq,h,d=>by
  rw[hz,aID]at d;obtain⟨a,aE,d⟩:=d;split at d
  ·rename_i hm;refine adY dg o j _ (IT _ _ p (dg a (Iu aE))) (fun v f z=>?_) dq h d;rcases ae v f z with q|⟨C,w,g⟩
   ·exact .inl (adU q)
   ·rcases aII.1 w with rfl|w
    ·exact .inl (Pc _ _ _ hm v g f)
    ·exact .inr ⟨C,w,g⟩
  ·cases d
theorem aAv(dg:iq S)(d:mj r){h:I}(f:h∈o9 S r):ct 8 h false=true :=
 adY dg d _ [] (fun _ h=>by cases h) (fun v j g=>.inr g) _ h f
def aAw(r:aU)(σ:Sub):Prop:=(b2 σ).Nodup/\(∀k∈b2 σ,k∈cw (fU r))/\qR σ
theorem mj.leaves(h:mj r):(cw (fU r)).length<=2304:=by
 have f:=IQ (b:=256) (fU r) fun u d=>IS (n:=4) (h.a u d).1;have U:(fU r).length<=9:=by simp only[fU,aB5,aIC];have:=h.b;omega
 have g:(fU r).length*256<=9*256:=aIR _ U;omega
theorem IU{p:Lit->Bool}{l:Lit}(h:l∈r.body.filter p):l.atom∈fU r:=by
 simp only[fU,aII,Ja];exact .inr ⟨l,(aHW.1 h).1,rfl⟩
theorem ad0(dg:iq S)(d:S.length<=100000)(f:mj r):EM S (r.body.filter eX) (r.body.filter fun l=>!eX l) r.head (fun a=>ct 8 a true=true) (aAw r):=by
 have ae:=f.b;have g:∀p:Lit->Bool,(r.body.filter p).length<=100000:=fun p=>by have:=aIQ p r.body;omega
 refine⟨fun σ l a aA d aE hm=>⟨BJ _ _ aA.1,fun k hk=>?_,IT _ _ aA.2.2 (dg a aE)⟩,fun σ l aA d=>?_,fun σ aA=>?_,fun σ aA=>?_,fun l d=>?_,fun l d=>?_,?_,g _,g _,d⟩
 ·rcases Pd _ _ _ k hk with h|h
  ·exact aA.2.1 k h
  ·exact ER.2 ⟨l.atom,IU d,h⟩
 ·exact BS (ES (v:=true) aA.2.2 (f.a _ (IU d)).1 (fun h=>by cases h)) (by omega)
 ·exact ES (v:=true) (n:=4) aA.2.2 (f.a _ (by simp[fU])).1 (fun h=>by cases h)
 ·have j:=List.Nodup.length_le_of_subset aA.1 aA.2.1;have:=f.leaves;simp only[b2,aIC]at j;omega
 ·have:=IS (n:=4) (f.a _ (IU d)).1;omega
 ·have:=EP (f.a _ (IU d)).1;omega
 ·have:=EP (f.a r.head (by simp[fU])).1;omega
variable {a:I}
theorem Pe(dg:iq S)(aE:ct n a v=true):kc S a=true↔a∈S:=by
 rw[kc,aB8];constructor
 ·rintro⟨b,ae,he⟩;rw[beq_iff_eq]at he;rw[<-O8 (sY (dg b ae)) (sY aE) he];exact ae
 ·exact fun h=>⟨a,h,by simp⟩
variable {fi:List I}
theorem ad1(h:∀a,a∈S↔a∈fi)(a:I):kc S a=kc fi a:=by
 rw[aIN,kc,kc,aB8,aB8];exact⟨fun⟨b,ae,he⟩=>⟨b,(h b).1 ae,he⟩,fun⟨b,ae,he⟩=>⟨b,(h b).2 ae,he⟩⟩
theorem aAx(h:∀a,a∈S↔a∈fi)(σ:Sub)(l:Lit):qN S σ l=qN fi σ l:=by
 unfold qN;rw[ad1 h]
theorem Pf(h:∀a,a∈S↔a∈fi)(dq:List Lit)(hd:I):∀(d:List Lit)(σ:Sub)(x:I),x∈hz S dq hd d σ↔x∈hz fi dq hd d σ
 |[],σ,x=>by
  have:qN S σ=qN fi σ:=funext fun l=>aAx h σ l;rw[hz,hz,this]
 |l::d,σ,x=>by
  rw[hz,hz,aID,aID];have f:∀a,a∈iE S l.atom.name↔a∈iE fi l.atom.name:=fun a=>by simp only[iE,aHW,h a]
  constructor
  ·rintro⟨a,aE,ah⟩;refine⟨a,(f a).1 aE,?_⟩;split at ah
   ·rename_i hm;rw[if_pos hm];exact(Pf h dq hd d _ x).1 ah
   ·cases ah
  ·rintro⟨a,aE,ah⟩;refine⟨a,(f a).2 aE,?_⟩;split at ah
   ·rename_i hm;rw[if_pos hm];exact(Pf h dq hd d _ x).2 ah
   ·cases ah
theorem aAy(h:∀a,a∈S↔a∈fi)(r:aU)(x:I):x∈o9 S r↔x∈o9 fi r:=Pf h _ _ _ _ _
theorem IV :∀{n:Nat}{t:I},ct n t v=true->c0 t<=n
 |0,_,h=>by cases h|n+1,t,h=>by
  have d:=sX h;rw[vI];have:∀l:List I,(∀u∈l,c0 u<=n)->iX l<=n:=fun l=>by
   induction l with
   |nil=>intro _;simp[iX]|cons u r ih=>intro h;have j:=h u (by simp);have U:=ih fun w f=>h w (by simp[f]);simp only[iX];omega
  have:=this t.args fun u g=>IV (d.2.2.1 u g);omega
structure p0(m:List (aj×I))(acc:List I):Prop where
 n:(b2 m).Nodup
 g:∀s a,getM m s=some a->a∈acc/\cy a=s
 s:∀a∈acc,(getM m (cy a)).isSome=true
theorem p0.nil:p0 [] []:=⟨.nil,fun s a h=>(by cases h),fun a h=>(by cases h)⟩
theorem p0.put{acc:List I}(h:p0 m acc)(a:I):p0 (fz m (cy a) a) (acc++[a]):=by
 refine⟨zo h.n _ _,fun s b ae=>?_,fun b ae=>?_⟩
 ·rw[vN]at ae;split at ae
  ·grind
  ·exact⟨List.mem_append_left _ (h.g s b ae).1,(h.g s b ae).2⟩
 ·rw[vN];split
  ·rfl
  ·rcases TH.1 ae with ae|ae
   ·exact h.s b ae
   ·grind
def en(l:List aU)(S:List I):List I:=l.flatMap (o9 S)
structure uc(m:List (aj×I))(az S:List I):Prop where
 n:(b2 m).Nodup
 g:∀s a,getM m s=some a->a∈az/\cy a=s/\kc S a=false
 s:∀a∈az,kc S a=false->(getM m (cy a)).isSome=true
structure p1(km m1:List (aj×I))(ks:List aj)(m:List (aj×I)):Prop where
 pX:ks.Nodup
 BT:∀s∈ks,s∈b2 m1
 n:(b2 m).Nodup
 g:∀s,getM m s=if s∈ks/\(getM km s).isSome=true then none else getM m1 s
variable {m1:List (aj×I)}
theorem p1.start(h:(b2 m1).Nodup):p1 km m1 [] m1:=⟨.nil,fun s h=>(by cases h),h,fun s=>by simp⟩
theorem p1.len(h:p1 km m1 ks m):ks.length<=m1.length:=by
 have:=List.Nodup.length_le_of_subset h.pX h.BT;simpa[b2]using this
variable {q:aj}
theorem p1.Pg(h:p1 km m1 ks m)(ao:(q,a)∈m)(d:q∉ks)(hk:getM km q=none):p1 km m1 (ks++[q]) m:=by
 have o:=(rP h.n).2 ao;have f:=h.g q;rw[if_neg (fun e=>d e.1),o]at f;refine⟨?_,fun s az=>?_,h.n,fun s=>?_⟩
 ·rw[aIF];exact⟨h.pX,by simp,fun x ah y g=>by rw[aeZ]at g;rw[g];exact fun e=>d (e▸ah)⟩
 ·rcases TH.1 az with az|az
  ·exact h.BT s az
  ·rw[aeZ]at az;rw[az];by_cases j:q∈b2 m1
   ·exact j
   ·rw[getM_none.2 j]at f;cases f
 ·rw[h.g];by_cases az:s=q
  ·subst az;simp[d,hk]
  ·simp[az]
theorem p1.del(h:p1 km m1 ks m)(ao:(q,a)∈m)(f:q∉ks)(hk:getM km q=some u):p1 km m1 (ks++[q]) (lL m q):=by
 have o:=(rP h.n).2 ao;have d:=h.g q;rw[if_neg (fun e=>f e.1),o]at d;refine⟨?_,fun s az=>?_,Ot h.n _,fun s=>?_⟩
 ·rw[aIF];exact⟨h.pX,by simp,fun x ah y g=>by rw[aeZ]at g;rw[g];exact fun e=>f (e▸ah)⟩
 ·rcases TH.1 az with az|az
  ·exact h.BT s az
  ·rw[aeZ]at az;rw[az];by_cases j:q∈b2 m1
   ·exact j
   ·rw[getM_none.2 j]at d;cases d
 ·rw[Ou h.n,h.g];by_cases az:s=q
  ·subst az;simp[hk]
  ·simp[az]
theorem p1.done(h:p1 km m1 ks m)(he:m.filter (fun p=>!ks.contains p.1)=[]){az:List I}(j:iZ km bj S)(hm:p0 m1 az):uc m az S:=by
 have z:∀s a,getM m s=some a->s∈ks:=fun s a f=>by
  have ao:=(rP h.n).1 f;cases g:ks.contains s with
  |true=>exact aIJ.1 g|false =>
   have:(s,a)∈m.filter (fun p=>!ks.contains p.1):=aHW.2 ⟨ao,by simp only[g];rfl⟩;rw[he]at this;cases this
 refine⟨h.n,fun s a f=>?_,fun a aE o=>?_⟩
 ·have hk:=z s a f;have d:=h.g s;rw[f]at d;split at d
  ·cases d
  ·rename_i g;obtain⟨C,w⟩:=hm.g s a d.symm;refine⟨C,w,?_⟩;rw[<-j.has,w];cases ah:(getM km s).isSome with
   |false=>rfl|true=>exact absurd ⟨hk,ah⟩ g
 ·have d:=h.g (cy a);rw[<-j.has]at o;rw[if_neg (by rw[o];simp)]at d;rw[d];exact hm.s a aE
def k3(l:List I):Bool:=l.any fun a=>decide (4<c0 a)
def gF(l:List aU)(A:List I):List I:=(en l A).filter fun a=>!kc A a
def nH:Nat->List aU->List I->Option (Nat×List I)
 |0,_,_=>none|f+1,l,A=>if k3 (en l A)=true then some (3,A)
  else if gF l A=[]then some (0,A)
  else if 100000<(fu (A++gF l A)).length then none
  else if 512<(fu (A++gF l A)).length then some (11,fu (A++gF l A))
  else nH f l (fu (A++gF l A))
theorem ad3(h:∀a,a∈S↔a∈fi)(l:List aU)(x:I):x∈en l S↔x∈en l fi:=by
 simp only[en,aID,aAy h]
theorem ad4{m:List I}(h:∀a,a∈l↔a∈m):k3 l=k3 m:=by
 rw[k3,k3,aIN,aB8,aB8];exact⟨fun⟨a,aE,hd⟩=>⟨a,(h a).1 aE,hd⟩,fun⟨a,aE,hd⟩=>⟨a,(h a).2 aE,hd⟩⟩
variable {l:List aU}{A:List I}
theorem ov{x:I}:x∈gF l A↔x∈en l A/\kc A x=false:=by
 rw[gF,aHW];simp
theorem Pj(h:∀a,a∈S↔a∈fi)(l:List aU)(x:I):x∈gF l S↔x∈gF l fi:=by
 rw[ov,ov,ad3 h,ad1 h]
theorem ad5{l m:List I}(h:∀a,a∈l↔a∈m):l=[]↔m=[]:=by
 constructor
 ·rintro rfl;exact aIP.2 fun a aE=>by cases (h a).2 aE
 ·rintro rfl;exact aIP.2 fun a aE=>by cases (h a).1 aE
theorem p0.more:∀(l:List I){m:List (aj×I)}{acc:List I},p0 m acc->∃d,p0 d (acc++l)
 |[],m,acc,h=>⟨m,by rw[List.append_nil];exact h⟩|a::l,m,acc,h=>by
  obtain⟨d,f⟩:=p0.more l (h.put a);exact⟨d,by rw[aIE]at f;exact f⟩
theorem uc.ex(l:List aU)(S:List I):∃m,uc m (en l S) S:=by
 obtain⟨m,h⟩:=p0.more (m:=[]) (acc:=[]) (gF l S) p0.nil;rw[List.nil_append]at h;exact⟨m,h.n,fun s a d=>⟨(ov.1 (h.g s a d).1).1,(h.g s a d).2,(ov.1 (h.g s a d).1).2⟩,fun a aE f=>h.s a (ov.2 ⟨aE,f⟩)⟩
theorem uc.nil(h:uc m (en l S) S):m.length=0↔gF l S=[]:=by
 constructor
 ·intro d;rw[List.length_eq_zero_iff]at d;subst d;refine aIP.2 fun a aE=>?_;have:=ov.1 aE;have:=h.s a this.1 this.2;simp[getM]at this
 ·intro d;rw[List.length_eq_zero_iff];refine aIP.2 fun p ao=>?_;obtain⟨s,a⟩:=p;have:=h.g s a ((rP h.n).2 ao);have hm:a∈gF l S:=ov.2 ⟨this.1,this.2.2⟩;rw[d]at hm;cases hm
theorem ad6(h:(L.map cy).Nodup):L.Nodup:=by
 rw[aIS]at h ⊢;exact(List.pairwise_map.1 h).imp fun cc he=>cc (by rw[he])
theorem ET(h:jy L):L.Nodup:=h.imp fun{a b}d he=>by
 subst he;rw[H2]at d;omega
theorem aAD{d:List I}(f:L.Nodup)(U:d.Nodup)(h:∀a,a∈L↔a∈d):L.length=d.length :=
 Nat.le_antisymm (List.Nodup.length_le_of_subset f fun a aE=>(h a).1 aE) (List.Nodup.length_le_of_subset U fun a aE=>(h a).2 aE)
theorem EU(d:∀r∈l,mj r)(dg:iq S)(hd:k3 (en l S)=false)(aE:a∈en l S):ct 4 a false=true:=by
 obtain⟨r,f,g⟩:=aID.1 aE;refine O9 (aAv dg (d r f) g) ?_;rw[k3,List.any_eq_false]at hd;have:=hd a aE;simpa using this
structure ud(l:List aU)(S:List I)(m:List (aj×I))(ks:List aj)(hn:List I):Prop where
 pX:ks.Nodup
 BT:∀s∈ks,s∈b2 m
 v:iq hn
 m:∀a,a∈hn↔a∈S\/(a∈gF l S/\cy a∈ks)
 t:(hn.map cy).Nodup
variable {hn:List I}
theorem ud.len(h:ud l S m ks hn):ks.length<=m.length:=by
 have:=List.Nodup.length_le_of_subset h.pX h.BT;simpa[b2]using this
theorem ud.eM(h:ud l S m ks hn)(cq:∀a,a∈S↔a∈A):hn.length<=(fu (A++gF l A)).length:=by
 refine List.Nodup.length_le_of_subset (ad6 h.t) fun a aE=>?_;rw[oi,TH];rcases(h.m a).1 aE with h|h
 ·exact .inl ((cq a).1 h)
 ·exact .inr ((Pj cq l a).1 h.1)
theorem ud.step(f:∀r∈l,mj r)(dg:iq S)(hd:k3 (en l S)=false)(g:uc m (en l S) S)(h:ud l S m ks hn)(ao:(q,a)∈m)(w:q∉ks)
  (z:((mg hn a).map cy).Nodup):ud l S m (ks++[q]) (mg hn a):=by
 obtain⟨j,C,D⟩:=g.g q a ((rP g.n).2 ao);have d:=EU f dg hd j;have E:a∈gF l S:=ov.2 ⟨j,D⟩;have hm:∀b,b∈mg hn a↔b∈hn\/b=a:=fun b=>by
  unfold mg;split
  ·rename_i o;rw[Pe h.v d]at o;exact⟨.inl,fun e=>e.elim id fun e=>e▸o⟩
  ·simp
 refine⟨?_,fun s az=>?_,fun b ae=>?_,fun b=>?_,z⟩
 ·rw[aIF];exact⟨h.pX,by simp,fun x ah y p=>by rw[aeZ]at p;rw[p];exact fun e=>w (e▸ah)⟩
 ·rcases TH.1 az with az|az
  ·exact h.BT s az
  ·rw[aeZ]at az;rw[az];exact Ja.2 ⟨_,ao,rfl⟩
 ·rcases(hm b).1 ae with ae|rfl
  ·exact h.v b ae
  ·exact d
 ·rw[hm,h.m];constructor
  ·grind
  ·rintro(ae|⟨ae,hk⟩)
   ·exact .inl (.inl ae)
   ·rcases TH.1 hk with hk|hk
    ·exact .inl (.inr ⟨ae,hk⟩)
    ·rw[aeZ]at hk;refine .inr (O8 (sY (EU f dg hd (ov.1 ae).1)) (sY d) (by rw[hk,C]))
theorem ud.done(d:uc m (en l S) S)(h:ud l S m ks hn)(cq:∀a,a∈S↔a∈A)(he:m.filter (fun p=>!ks.contains p.1)=[]):(∀a,a∈hn↔a∈fu (A++gF l A))/\hn.length=(fu (A++gF l A)).length:=by
 have hm:∀a,a∈hn↔a∈fu (A++gF l A):=fun a=>by
  rw[h.m,oi,TH,<-cq,<-Pj cq];constructor
  ·grind
  ·rintro(h|h)
   ·exact .inl h
   ·refine .inr ⟨h,?_⟩;have f:=ov.1 h;obtain⟨c,g⟩:=Option.isSome_iff_exists.1 (d.s a f.1 f.2);have ao:=(rP d.n).1 g;cases hk:ks.contains (cy a)with
    |true=>exact aIJ.1 hk|false =>
     have:(cy a,c)∈m.filter (fun p=>!ks.contains p.1):=aHW.2 ⟨ao,by simp only[hk];rfl⟩;rw[he]at this;cases this
 exact⟨hm,aAD (ad6 h.t) (ET (sR _)) hm⟩
open Enc (enc)
theorem aF.of_heap{P:Program}{gl:cp}{f:Nat}{k:Int}{xs:List AV}(R:jE P e 2=true)
  (T:bn P gl f xs [] fun E H'=>bQ E (.a8 [enc S,.int .i64 k])\/∃id,E=.a8 [.bs id 0 S.length 2,.int .i64 k]/\H'[id]?=some (.buf e (cM S))/\S.length<=M)(ah:xs.all AV.arg=true):aF P gl f xs (.a8 [enc S,.int .i64 k]):=by
 intro γ w vs V X Y;let g:bo:=⟨γ,fun b=>if b<w.heap.size then .outer else .none,fun _=>none⟩
 have j:Rel P gl 0 g (lz []) su w :=
  ⟨.nil,rfl,rfl,fun t e he=>by simp[lz,Env.get]at he,fun id bA Z=>by simp[lz]at Z,V,fun b ae=>by
   by_cases h:b<w.heap.size
   ·exact h
   ·simp[g,h]at ae,X,fun id b h=>by cases h⟩
 have lr:∀x∈xs,cP x:=fun x n1=>Dl (ae0.1 ah x n1);refine(T.2 g w vs j (Y.yR ah g rfl) (fun i x v h _=>(lr x (List.mem_of_getElem? h)).gb)).mono ?_;rintro b3 w' ⟨v,r',H',g',rfl,z,d,F,G,_⟩;have J:∀b,b<w.heap.size->g'.bD b=.outer/\w'.heap[b]?=w.heap[b]?/\∀o,g'.γ b o=g.γ b o:=fun b ae=>d.outer b (by simp[g,ae]);have K:cP (.a8 [enc S,.int .i64 k]):=fun _ _ _ h=>by cases h
 rcases z with z|⟨id,rfl,bM,dg⟩
 ·exact⟨v,g'.γ,rfl,d.γ,d.size,fun b ae=>(J b ae).2,⟨d.os,d.out⟩,F.ff,(z _ _ G).Dk rfl _ rfl,K.gb⟩
 ·cases G with
  |pure _ _ h=>cases h|a8 _ ws h =>
   cases h with
   |cons _ _ v1 ws h1 U =>
    have O:(cM S).take (S.length*2)=cM S:=aIL (by rw[kC];omega);obtain⟨p,C,t2,Q,_⟩:=Lo F h1 bM R (by rw[kC];exact aB9 _) (by rw[O,BE];exact Eo S) dg .outer;have D:∀b,b<w.heap.size->p.bD b=.outer/\w'.heap[b]?=w.heap[b]?/\∀o,p.γ b o=g.γ b o:=fun b ae=>by
     obtain⟨al,au,aS⟩:=J b ae;obtain⟨aK,aQ,bH⟩:=C.outer b al;exact⟨aK,au,fun o=>(bH o).trans (aS o)⟩
    rw[O]at Q;refine⟨_,p.γ,rfl,fun b o v h=>C.γ _ _ _ (d.γ _ _ _ h),d.size,fun b ae=>(D b ae).2,⟨d.os,d.out⟩,t2.ff,?_,K.gb⟩;refine bb.Dk (g:=p) (.a8 _ _ (.cons _ _ _ _ (.pure _ _ ?_) (U.mono C.toGhLe))) rfl _ rfl;have aN:(enc S:AV)=.list none 2 (S.map I.enc):=rfl;rw[aN];have aX:chunk 2 S.length ((cM S).map AV.aW)=S.map I.enc:=by
     rw[BE];exact Ep S
    rw[<-aX];exact Q
instance:Inhabited aU:=⟨⟨default,[]⟩⟩
def vW(s:aj):List aj->List aj
 |[]=>[s]|t::r=>if s=t then t::r else if Op.bytesLess s t then s::t::r else t::vW s r
def pb(l:List aU):List aj:=(l.flatMap fun r=>r.head.name::r.body.map fun x=>x.atom.name).filter fun s=>!(s==hW)
def gP(l:List aU):List aj:=(pb l).foldl (fun acc s=>vW s acc) []
def k4(a b:bE):Int :=
 if dk a.src b.src≠0 then dk a.src b.src else if dk a.dst b.dst≠0 then dk a.dst b.dst else if a.neg=b.neg then 0 else if b.neg then -1 else 1
def vX(x:bE):List bE->List bE
 |[]=>[x]|t::r=>if k4 x t=0 then t::r else if k4 x t<0 then x::t::r else t::vX x r
def jr(l:List aU):List bE:=(l.filter fun r=>!(r.head.name==hW)).flatMap fun r=>(r.body.filter fun x=>!(x.atom.name==hW)).map fun x=>⟨r.head.name,x.atom.name,x.neg⟩
def jY(l:List aU):List bE:=(jr l).foldl (fun acc x=>vX x acc) []
def lP(cN:List (aj×Int))(s:aj):Int:=(getM cN s).getD 0
def zH(cN:List (aj×Int))(e:bE):Int:=lP cN e.dst+if e.neg then 1 else 0
def pc(n:Int):List bE->List (aj×Int)->Bool->Option (List (aj×Int)×Bool)
 |[],cN,p2=>some (cN,p2)|e::r,cN,p2=>if lP cN e.src<zH cN e then(if zH cN e>=n then none else pc n r (fz cN e.src (zH cN e)) true)else pc n r cN p2
def sZ(n:Int)(es:List bE):Nat->List (aj×Int)->Option (Option (List (aj×Int)))
 |0,_=>none|f+1,cN=>match pc n es cN false with
  |none=>some none|some (jZ,true)=>sZ n es f jZ|some (jZ,false)=>some (some jZ)
def s0(l:List aU):Option (List (aj×Int)):=((sZ (gP l).length (jY l) ((gP l).length*(gP l).length+2) []).getD none).map fun cN=>(gP l).map fun s=>(s,lP cN s)
def ml(levels:List (aj×Int))(s:aj):Int:=(getM levels s).getD (-1)
def vY(levels:List (aj×Int)):Int:=levels.foldl (fun m p=>max m p.2) (-1)
def kd(l:List aU):List (List Nat)×Nat:=match s0 l with
 |none=>([],10)|some levels=>((List.range (vY levels+1).toNat).map fun n:Nat=>(List.range l.length).filter fun i=>ml levels l[i]!.head.name==(n:Int),0)
variable {row:List Nat}
theorem aea(h:row∈(kd l).1)(hk:k∈row):k<l.length:=by
 unfold kd at h;split at h
 ·cases h
 ·grind
def p3(i:Nat):AV:=.int .i64 (i:Int)
def s3(row:List Nat):AV:=.list none 1 (row.map p3)
def hY(l:List aU):Nat:=if 128<l.length then 2 else((l.find? fun r=>!(h6 r==0)).map h6).getD 0
def zI(a:I):Bool:=(a.name==[116,114,117,101]&&decide (a.args.length=1)||a.name==[100,111,101,115]&&decide (a.args.length=2))&&ct 4 a false
def k5(l:List I):Bool:=decide (l.length<=512)&&l.all zI
def vZ(l:List aU):List (List Nat)->List I->Option (List I×Nat)
 |[],A=>some (A,0)|row::rs,A=>match nH 600 (row.map (l[·]!)) A with
  |none=>none|some (e,nI)=>if e=0 then vZ l rs nI else some ([],e)
def fq(l:List aU)(atoms:List I):Option (List I×Nat) :=
 if hY l≠0 then some ([],hY l)
 else if(kd l).2≠0 then some ([],(kd l).2)
 else if !k5 atoms then some ([],13)
 else vZ l (kd l).1 (fu atoms)
theorem zJ(h:hY l=0):l.length<=128/\∀r∈l,mj r:=by
 unfold hY at h;split at h
 ·cases h
 ·refine⟨by omega,fun r d=>aAr ?_⟩;cases f:l.find? fun r=>!(h6 r==0)with
  |none=>grind|some s=>grind
theorem Pn(g:∀r∈l,mj r):∀{f:Nat}{A d:List I}{e:Nat},jy A->iq A->A.length<=100000->nH f l A=some (e,d)->e=0->jy d/\iq d/\d.length<=100000
 |0,_,_,_,_,_,_,h,_=>by cases h|f+1,A,d,e,h1,U,j,h,he=>by
  rw[nH]at h;split at h
  ·grind
  ·rename_i hd;split at h
   ·grind
   ·split at h
    ·cases h
    ·rename_i ae;split at h
     ·grind
     ·refine Pn g (sR _) (fun a aE=>?_) (by omega) h he;rw[oi,TH]at aE;rcases aE with aE|aE
      ·exact U a aE
      ·exact EU g U (by simpa using hd) (ov.1 aE).1
theorem iZ.more:∀(L:List I){km:List (aj×I)}{bj:List (aj×List I)}{S:List I},iZ km bj S->((S++L).map cy).Nodup->∃d f,iZ d f (S++L)
 |[],km,bj,S,h,_=>⟨km,bj,by rw[List.append_nil];exact h⟩|a::L,km,bj,S,h,g=>by
  have aE:kc S a=false:=by
   rw[Bool.eq_false_iff];intro j;rw[kc,aB8]at j;obtain⟨b,ae,he⟩:=j;rw[aIK,aIF]at g;exact g.2.2 (cy b) (Ja.2 ⟨b,ae,rfl⟩) (cy a) (by simp) (beq_iff_eq.1 he)
  obtain⟨d,f,o⟩:=iZ.more L (h.add aE) (by rw[aIE];exact g);exact⟨d,f,by rw[aIE]at o;exact o⟩
theorem aAK(d:A.Nodup)(U:iq A):(A.map cy).Nodup:=by
 rw[aIS,List.pairwise_map];rw[aIS]at d;have:∀{L:List I},(∀a∈L,a∈A)->L.Pairwise (·≠·)->L.Pairwise fun a b=>cy a≠cy b:=fun{L}cg ao=>by
  induction L with
  |nil=>exact .nil|cons a r ih =>
   rw[List.pairwise_cons]at ao ⊢;exact⟨fun b ae he=>ao.1 b ae (O8 (sY (U a (cg a (by simp)))) (sY (U b (cg b (by simp[ae])))) he),ih (fun b ae=>cg b (by simp[ae])) ao.2⟩
 exact this (fun a h=>h) d
theorem gq.ex(h:gq e H x k b S)(j:(fi.map cy).Nodup):∃H',gq e H' x k b fi/\H'.length=H.length/\∀i,i≠k->i≠b->H'[i]?=H[i]?:=by
 obtain⟨n,m,km,bj,aA,z⟩:=h;obtain⟨d,f,g⟩:=iZ.more fi iZ.nil (by simpa using j);rw[List.nil_append]at g;have o:=dd aA.hk;have p:=dd aA.ae
 refine⟨(H.set k (.map 0 (cb I.enc d))).set b (.map 0 (cb (k1 e) f)),⟨0,0,d,f,⟨?_,?_,?_,aA.cc⟩,g⟩,by simp,fun i w U=>by rw[b5 (Ne.symm U),b5 (Ne.symm w)]⟩
 ·rw[b5 (Ne.symm aA.OJ),b5 (Ne.symm aA.OI)];exact aA.ah
 ·rw[b5 (Ne.symm aA.cc),dD o]
 ·rw[dD (by simpa using p)]
theorem aeb(h:zI a=true):ct 4 a false=true:=by
 simp only[zI,LW]at h;exact h.2
theorem aAL{l:List I}(h:k5 l=true):l.length<=512/\∀a∈l,ct 4 a false=true:=by
 simp only[k5,LW,decide_eq_true_eq]at h;exact⟨h.1,fun a aE=>aeb (ae0.1 h.2 a aE)⟩
theorem aAM(dg:iq S)(aE:ct 4 a false=true)(b:I):b∈mg S a↔b∈S\/b=a:=by
 unfold mg;split
 ·rename_i d;rw[Pe dg aE]at d;exact⟨.inl,fun e=>e.elim id fun e=>e▸d⟩
 ·simp
theorem aec(S:List I)(a:I):(mg S a).length<=S.length+1:=by unfold mg;split<;>simp
theorem I0{n:Int}:∀{es:List bE}{f g:List (aj×Int)}{o p:Bool},pc n es f o=some (g,p)->(∀s v,getM f s=some v->v<n)->∀s v,getM g s=some v->v<n
 |[],f,g,o,p,h,j,s,v,d=>by
  simp only[pc,Option.some.injEq,Prod.mk.injEq]at h;obtain⟨rfl,_⟩:=h;exact j s v d
 |e::r,f,g,o,p,h,j,s,v,d=>by
  rw[pc]at h;split at h
  ·split at h
   ·cases h
   ·rename_i w;refine I0 h (fun s v d=>?_) s v d;rw[vN]at d;split at d
    ·simp only[Option.some.injEq]at d;omega
    ·exact j s v d
  ·exact I0 h j s v d
theorem aed{n:Int}{es:List bE}:∀{f:Nat}{d g:List (aj×Int)},sZ n es f d=some (some g)->(∀s v,getM d s=some v->v<n)->∀s v,getM g s=some v->v<n
 |0,_,_,h,_,_,_,_=>by cases h|f+1,d,g,h,j,s,v,o=>by
  rw[sZ]at h;split at h
  ·cases h
  ·rename_i ao;exact aed h (I0 ao j) s v o
  ·rename_i ao;simp only[Option.some.injEq]at h;subst h;exact I0 ao j s v o
theorem aee(s:aj):∀l:List aj,(vW s l).length<=l.length+1
 |[]=>by simp[vW]|t::r=>by
  have:=aee s r;rw[vW];split
  ·simp
  ·grind
theorem aef:∀(m l:List aj),(m.foldl (fun acc s=>vW s acc) l).length<=l.length+m.length
 |[],l=>by simp|s::m,l=>by
  rw[aIO];have:=aef m (vW s l);have:=aee s l;simp only[aB5];omega
theorem Po{β:Type}{f:α->List β} :∀(l:List α),(∀x∈l,(f x).length<=b)->(l.flatMap f).length<=l.length*b
 |[],_=>by simp|x::r,h=>by
  have g:=h x (aHV ..);have U:=Po r fun y d=>h y (aHk _ d);simp only[List.flatMap_cons,fM,aB5,Nat.add_mul,Nat.one_mul];omega
theorem Pp(h:∀r∈l,r.body.length<=8):(gP l).length<=l.length*9:=by
 have d:=aef (pb l) [];have U:(pb l).length<=l.length*9:=Nat.le_trans (aIQ _ _) (Po l fun r f=>by have:=h r f;simp only[aB5,aIC];omega);simp only[List.length_nil]at d;unfold gP;omega
theorem aeg{b:Int}:∀(d:List (aj×Int))(m:Int),m<=b->(∀p∈d,p.2<=b)->d.foldl (fun m p=>max m p.2) m<=b
 |[],m,h,_=>h|p::r,m,h,ao=>by
  rw[aIO];have:=ao p (aHV ..);exact aeg r _ (by omega) fun q f=>ao q (aHk _ f)
theorem aeh(D:l.length<=128)(U:∀r∈l,r.body.length<=8):(kd l).1.length<=100000:=by
 have E:=Pp U;unfold kd;split
 ·simp
 ·rename_i d g;have hm:vY d<=1152:=by
   unfold s0 at g;rw[Option.map_eq_some_iff]at g;obtain⟨w,f,rfl⟩:=g;cases j:sZ (gP l).length (jY l) ((gP l).length*(gP l).length+2) []with
   |none=>rw[j]at f;cases f|some o =>
    rw[j]at f;simp only[Option.getD_some]at f;subst f;have z:=aed j (fun s v h=>by cases h);refine aeg _ _ (by omega) fun p ao=>?_;obtain⟨s,_,rfl⟩:=Ja.1 ao;simp only[lP];cases C:getM w s with
    |none=>simp|some v=>have:=z s v C;simp only[Option.getD_some];omega
  simp only[aIC,List.length_range];omega
theorem aAN(h:row∈(kd l).1):row.length<=l.length:=by
 unfold kd at h;split at h
 ·cases h
 ·grind
theorem I1:∀{l m:List I},l.Sublist m->(cw l).length<=(cw m).length
 |_,_,.slnil=>aB9 _|_,_,.cons a h=>by have:=I1 h;simp only[cw,fM];omega|_,_,.cons_cons a h=>by have:=I1 h;simp only[cw,fM];omega
theorem aAO(r:aU):(cw (zm r)).length<=(cw (fU r)).length:=I1 (List.Sublist.cons_cons _ (List.filter_sublist.map _))
theorem aAP(r:aU):(cw (Eu r)).length<=(cw (fU r)).length:=I1 (List.Sublist.cons _ (List.filter_sublist.map _))
theorem aei:∀(l out:List aj),(l.foldl mb out).length<=out.length+l.length
 |[],out=>by simp|s::l,out=>by
  rw[aIO];have d:=aei l (mb out s);have U:(mb out s).length<=out.length+1:=by unfold mb;split<;>simp
  simp only[aB5];omega
theorem aAQ(l:List I):(nD l).length<=(cw l).length:=by have:=aei (cw l) [];simpa[nD,qJ]using this
theorem aAR(he:mf t h=0)(d:t.name=BF):t.args.length=1:=by
 unfold mf at he;have hk:xy t.name=some ⟨BF,1,true,true⟩:=by rw[d];rfl
 rw[hk]at he;by_cases f:t.args.length=1
 ·exact f
 ·grind
end AM
