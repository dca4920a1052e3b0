/- An abstract machine, and what of the given program it does, part 19. Conditions: none. -/
import Derived.Test.YtanepioeppghhaaGreatDoorAm17
import Derived.Sort.AssemblyPlain
import Derived.Sort.LotD5
import Derived.Sort.Walk13a
set_option linter.unusedVariables false
namespace AM
open Go
open Enc (enc)
def hM:List aj->List AV
 |[]=>[]|s::r=>.str s::hM r
theorem E2:∀l:List aj,(hM l).length=l.length
 |[]=>rfl|s::r=>by simp only[hM,List.length_cons,E2 r]
def wa(e:Nat)(H:List ax)(id:Nat)(l:List aj):List ax:=H.set id (.buf e (hM l))
variable {e:Nat}{H:List ax}{id:Nat}
theorem PC{l:List aj}(h:id<H.length):(wa e H id l)[id]?=some (.buf e (hM l)):=by simp[wa,h]
def fA:List bE->List AV
 |[]=>[]|x::r=>.str x.src::.str x.dst::.bool x.neg::fA r
theorem B2:∀l:List bE,(fA l).length=l.length*3
 |[]=>rfl|t::r=>by simp only[fA,List.length_cons,B2 r];omega
def wb(e:Nat)(H:List ax)(id:Nat)(l:List bE):List ax:=H.set id (.buf e (fA l))
theorem PD{l:List bE}(h:id<H.length):(wb e H id l)[id]?=some (.buf e (fA l)):=by simp[wb,h]
attribute [go_sem] PC PD Nat.mul_one
abbrev mn(a b:aj):Bool:=Op.bytesLess a b
abbrev pf(a b:bE):Bool:=decide (k4 a b<0)
section
variable {α:Type}[Inhabited α]{lt:α->α->Bool}
theorem aet(l:List α)(i:Nat):l.toArray[i]! = l[i]!:=by simp
end
structure PE where
 n:Nat
instance:Enc PE where
 sz:=1
 enc a:=.int .u64 a.n
 arg _:=rfl
 can _:=by simp only[AV.can]
 inj a b h:=by cases a;cases b;simp only[AV.int.injEq,true_and]at h;simp only[PE.mk.injEq];omega
 cl _:=rfl
 eM _:=True
 nv _:=trivial
 kx _:=trivial
theorem aBy(n:Nat):Enc.enc (PE.mk n)=.int .u64 n:=rfl
attribute [go_sem] aBy
variable {α:Type}
theorem aeu{c:α->α->Int}(f:∀a b,c b a = - c a b)(g:∀a b,c a b=0->a=b)(h:∀a b d,c a b<0->c b d<0->c a d<0):Sort.SWO fun a b=>decide (c a b<0) where
 irrefl x:=by grind
 trans x y z h1 U:=by grind
 ntrans x y z h1 U:=by grind
theorem aev(a b:aj):mn a b=decide (dk a b<0):=by
 rw[HR];by_cases c:Op.bytesLess a b=true
 ·rw[if_pos c];exact c
 ·grind
theorem E3:Sort.SWO mn:=by
 have:mn=fun a b=>decide (dk a b<0):=by funext a b;exact aev a b
 rw[this];exact aeu BB (fun a b=>mP.1) Ef
theorem aew(a:aj):dk a a=0:=mP.2 rfl
theorem PF(a b:bE):k4 b a = - k4 a b:=by
 obtain⟨s,d,n⟩:=a;obtain⟨c,f,h⟩:=b;unfold k4;simp only;rw[BB s c,BB d f];by_cases g:dk s c=0
 ·grind
 ·simp[g]
theorem I6{a b:bE}(h:k4 a b=0):a=b:=by
 obtain⟨s,d,n⟩:=a;obtain⟨j,k,c⟩:=b;unfold k4 at h;simp only at h;split at h
 ·exact absurd h (by assumption)
 ·split at h
  ·exact absurd h (by assumption)
  ·rename_i f U;have g:=mP.1 (Decidable.not_not.1 f);have i:=mP.1 (Decidable.not_not.1 U);subst g i;cases n<;>cases c<;>simp_all
theorem aex(a:bE):k4 a a=0:=by have:=PF a a;omega
theorem aBz(a b c:bE)(f:k4 a b<0)(U:k4 b c<0):k4 a c<0:=by
 obtain⟨s,d,n⟩:=a;obtain⟨g,i,u⟩:=b;obtain⟨l,m,t⟩:=c;unfold k4 at *;simp only at *;by_cases o:s=g
 ·subst o;rw[if_neg (by rw[aew];omega)]at f;by_cases j:dk s l=0
  ·rw[if_neg (by omega)]at U ⊢;by_cases p:d=i
   ·subst p;rw[if_neg (by rw[aew];omega)]at f;by_cases k:dk d m=0
    ·grind
    ·rw[if_pos k]at U ⊢;exact U
   ·have q:dk d i≠0:=fun h=>p (mP.1 h);rw[if_pos q]at f;by_cases k:dk i m=0
    ·have:=mP.1 k;subst this;rw[if_pos q];exact f
    ·rw[if_pos k]at U;have:=Ef d i m f U;rw[if_pos (by omega)];exact this
  ·rw[if_pos j]at U ⊢;exact U
 ·have r:dk s g≠0:=fun h=>o (mP.1 h);rw[if_pos r]at f;by_cases j:dk g l=0
  ·have:=mP.1 j;subst this;rw[if_pos r];exact f
  ·rw[if_pos j]at U;have:=Ef s g l f U;rw[if_pos (by omega)];exact this
theorem zL:Sort.SWO pf:=aeu PF (fun a b=>I6) aBz
theorem aey{P:Program}{gl:cp}{f:Nat}{vs:List AV}{G:List ax}{r:AV}{F:List ax->List ax}{K:AV->List ax->Prop}{tg:aM K}(h:bn P gl f vs G fun r' H'=>r'=r/\∃y,H'=F y)(hk:∀y,K r (F y)):ma P gl f vs G K tg :=
 iW ⟨h,r,F [],rfl,[],rfl⟩ (by rintro r' H' ⟨rfl,y,rfl⟩;exact hk y)
theorem toA(d:Array α):∃l:List α,d=l.toArray:=⟨d.toList,by simp⟩
end AM
