/- An abstract machine, and what of the given program it does, part 7. Conditions: none. -/
import Derived.Test.YtmmplkgkkkjojaaGreatDoorAm5
set_option linter.unusedSimpArgs false
set_option linter.unusedVariables false
namespace AM
open List renaming mem_cons -> aKB,map_cons -> aKD,not_mem_nil -> aKE,all_cons -> aKF,cons_append -> aKG,map_nil -> aKH,map_congr_left -> aKI,all_nil -> aKJ,map_map -> aKM,map_inj_right -> aKN,length_cons -> aKO,replicate -> aKQ
open Nat renaming le_refl -> aKC,mul_add -> aKL,mul_le_mul_left -> aKR
open Bool renaming and_self -> aKK
open Int renaming le_refl -> aKP
open Go
mutual
def AV.can:AV->AV
 |.aS sz=>.list none sz []|.hK sz=>.list none sz []|.list _ sz xs=>.list none sz (tO xs)|.agg cs=>.agg (tO cs)|.bg cs=>.bg (tO cs)|x=>x
def tO:List AV->List AV
 |[]=>[]|x::r=>x.can::tO r
end
theorem uZ(l:List AV):tO l=l.map AV.can:=by
 induction l with
 |nil=>rfl|cons t r ih=>simp only[tO,aKD,ih]
theorem Ao(o:Option Nat)(sz:Nat)(xs:List AV):AV.can (.list o sz xs)=.list none sz (xs.map AV.can):=by simp only[AV.can,uZ]
theorem wU(xs:List AV):AV.can (.agg xs)=.agg (xs.map AV.can):=by simp only[AV.can,uZ]
theorem af2(xs:List AV):AV.can (.bg xs)=.bg (xs.map AV.can):=by simp only[AV.can,uZ]
theorem Qa(sz:Nat):AV.can (.aS sz)=.list none sz []:=by simp only[AV.can]
theorem af3(x:AV):x.can.cells=x.cells.map AV.can:=by
 cases x<;>simp only[AV.can,AV.cells,uZ,aKD,aKH]
variable {γ:fA}{x:AV}{v:Value}
theorem af4(ah:dr γ x v):dr γ x.can v:=by
 refine dr.rec (motive_1:=λx v _=>dr γ x.can v) (motive_2:=λb off cs _=>fB γ b off (cs.map AV.can)) (motive_3:=λb off sz xs _=>fa γ b off sz (xs.map AV.can))
  (motive_4:=λcs ws _=>fX γ (cs.map AV.can) ws) ?_ ?_ ?_ ?_ ?_ ?_ ?_ ?_ ?_ ?_ ?_ ?_ ?_ ?_ ?_ ?_ ?_ ?_ ?_ ah
 ·exact λb=>by simp only[AV.can];exact .bool b
 ·exact λk n=>by simp only[AV.can];exact .int k n
 ·exact λs ax=>by simp only[AV.can];exact .str s ax
 ·simp only[AV.can];exact .fl
 ·simp only[AV.can];exact .ha
 ·simp only[AV.can];exact .k4
 ·simp only[AV.can];exact .k5
 ·exact λsz=>by simp only[AV.can];exact .kn _ _ _ be
 ·exact λb off cs h _=>by simp only[AV.can];exact .cL b off cs h
 ·exact λsz base cap h=>by rw[Ao];exact .kn sz base cap h
 ·exact λsz base cap=>by simp only[AV.can];exact .kn _ _ _ be
 ·exact λb off cap sz xs a f _ d=>by
   rw[Ao];have:=dr.list b off cap sz (xs.map AV.can) kO nq d;simpa using this
 ·exact λcs ws _ h=>by rw[wU];exact .agg _ ws h
 ·exact λb off=>.nil b off
 ·exact λb off c cs v a d _ _ e g=>.cons b off _ _ v a d e g
 ·exact λb off sz=>.nil b off sz
 ·exact λb off sz x xs a _ _ d e=>.cons b off sz _ _ (by rw[af3,List.length_map];exact a) (by rw[af3];exact d) e
 ·exact .nil
 ·exact λc cs v ws a _ _ d e=>.cons _ _ v ws a d e
theorem aA5{g:bD}(ah:bn g x v):bn g x.can v:=by
 refine bn.rec (motive_1:=λx v _=>bn g x.can v) (motive_2:=λcs ws _=>cS g (cs.map AV.can) ws) ?_ ?_ ?_ ?_ ?_ ?_ ?_ ?_ ?_ ?_ ?_ ah
 ·exact λx v ar=>.pure _ v (af4 ar)
 ·exact λe sz xs v ar=>.pure _ v (by have:=af4 ar;rwa[Ao]at this ⊢)
 ·exact λid off b ae=>by simp only[AV.can];exact .ptr id off b ae
 ·exact λid b ae=>by simp only[AV.can];exact .map id b ae
 ·exact λsz base=>by simp only[AV.can];exact .lU sz base
 ·exact λid off n sz b k cap a d j l=>by simp only[AV.can];exact .bI id off n sz b k cap a d j l
 ·exact λf cs ws h _=>by simp only[AV.can];exact .fn f cs ws h
 ·exact λcs ws _ a i=>by rw[wU];exact .agg _ ws i a
 ·exact λcs ws _ i=>by rw[af2];exact .bg _ ws i
 ·exact .nil
 ·exact λc cs v ws _ _ a d=>.cons _ _ v ws a d
theorem aA6(x:AV):bx x x.can:=λ_ _ h=>aA5 h
variable {y:AV}
theorem Qb(h:x.can=y):bx x y:=h▸aA6 x
class Enc (α:Type) where
 sz:Nat
 enc:α->AV
 arg:∀a,(enc a).arg=true
 can:∀a,(enc a).can=enc a
 inj:∀a b,enc a=enc b->a=b
 cl:∀a,(enc a).cells.length=sz
 /-- lists and strings are no longer than M -/
 eS:α->Prop
 om:∀{γ:fA}{b off:Nat}{a:α},fB γ b off (enc a).cells->eS a
 lj:∀{g:bD}{a:α}{v:Value},bn g (enc a) v->eS a
open Enc (enc)
class aT {α:Type} [Enc α] (x:AV) (a:outParam α):Prop where
 arg:x.arg=true
 can:x.can=enc a
variable {α:Type}{a:α}
theorem aT.uniq[Enc α]{b:α}(c:aT x a)(d:aT x b):a=b:=Enc.inj _ _ (c.can▸d.can)
theorem aT.kX[Enc α](h:aT x a):bx x (enc a):=Qb h.can
instance aT.enc{α:Type}[Enc α](a:α):aT (Enc.enc a) a:=⟨Enc.arg a,Enc.can a⟩
theorem aA7(h:x.arg=true):x.a1=x:=by
 cases x with
 |list o sz xs=>cases o with
  |none=>rfl|some e=>simp[AV.arg,AV.pure,AV.eH]at h
 |_=>rfl
theorem Enc.a1[Enc α](a:α):(Enc.enc a).a1=Enc.enc a:=aA7 (Enc.arg a)
theorem aA8(h:x.arg=true):x.res=true:=by
 cases x with
 |bg vs=>simp[AV.arg,AV.pure,AV.eH]at h|list _ _ _=>rfl|_=>simpa[AV.res]using h
theorem Enc.res[Enc α](a:α):(Enc.enc a).res=true:=aA8 (Enc.arg a)
theorem Enc.iI[Enc α](a:α):cY (Enc.enc a):=E0 (Enc.arg a)
open Enc (enc)
theorem af5{b off:Nat}(h:fB γ b off [x]):∃v,dr γ x v:=by
 cases h with
 |cons _ _ _ _ v _ _ h _=>exact⟨v,h⟩
theorem af6{s:List UInt8}(h:dr γ (.str s) v):s.length<=M:=by cases h with|str _ h=>exact h
instance:Enc (List UInt8) where
 sz:=1
 enc s:=.str s
 arg _:=rfl
 can _:=by simp only[AV.can]
 inj _ _ h:=by simpa using h
 cl _:=rfl
 eS s:=s.length<=M
 om h:=by obtain⟨v,h⟩:=af5 h;exact af6 h
 lj h:=h.IV
instance:Enc Bool where
 sz:=1
 enc b:=.bool b
 arg _:=rfl
 can _:=by simp only[AV.can]
 inj _ _ h:=by simpa using h
 cl _:=rfl
 eS _:=True
 om _:=trivial
 lj _:=trivial
instance:Enc Int where
 sz:=1
 enc n:=.int .i64 n
 arg _:=rfl
 can _:=by simp only[AV.can]
 inj _ _ h:=by simpa using h
 cl _:=rfl
 eS _:=True
 om _:=trivial
 lj _:=trivial
instance:Enc Nat where
 sz:=1
 enc n:=.int .i64 n
 arg _:=rfl
 can _:=by simp only[AV.can]
 inj _ _ h:=by grind
 cl _:=rfl
 eS _:=True
 om _:=trivial
 lj _:=trivial
theorem af7[Enc α]:∀{l:List α}{b off sz:Nat},fa γ b off sz (l.map Enc.enc)->∀a∈l,Enc.eS a
 |[],_,_,_,_,a,h=>by cases h|x::r,b,off,sz,h,a,aG=>by
  rw[aKD]at h;cases h with
  |cons _ _ _ _ _ h1 c d =>
   rcases aKB.1 aG with rfl|aG
   ·exact Enc.om c
   ·exact af7 d a aG
variable {l:List α}{sz:Nat}
theorem CP[Enc α](h:dr γ (.list none sz (l.map Enc.enc)) v):l.length<=M/\∀a∈l,Enc.eS a:=by
 generalize ah:l.map Enc.enc=xs at h;cases h with
 |kn=>simp_all|list _ _ _ _ _ h1 c b =>
  subst ah;exact⟨by simpa using h1,af7 b⟩
instance {α:Type}[Enc α]:Enc (List α) where
 sz:=1
 enc l:=.list none (Enc.sz α) (l.map Enc.enc)
 arg _:=rfl
 can l:=by
  rw[Ao,aKM];congr 1
  exact aKI λa _=>Enc.can a
 inj a b h:=by
  simp only[AV.list.injEq,true_and]at h;exact aKN (λx y h=>Enc.inj x y h) |>.1 h
 cl _:=rfl
 eS l:=l.length<=M/\∀a∈l,Enc.eS a
 om h:=by obtain⟨v,h⟩:=af5 h;exact CP h
 lj h:=by
  cases h with
  |pure _ _ h=>exact CP h
theorem I.eta(t:I):I.mk t.name t.args=t:=by cases t;rfl
theorem I.qC(t:I):t.enc=.agg [.str t.name,.list none 2 (t.args.map I.enc)]:=by rw[t.yl,I.cells,oj]
mutual
theorem I.af8:∀t:I,t.enc.can=t.enc
 |.mk n l=>by simp only[I.enc,AV.can,tO,af9 l]
theorem af9:∀l:List I,tO (dH l)=dH l
 |[]=>by simp only[dH,tO]|t::r=>by simp only[dH,tO,I.af8 t,af9 r]
end
mutual
theorem I.FT:∀t u:I,t.enc=u.enc->t=u
 |.mk n l,.mk m k,h=>by
  simp only[I.enc,AV.agg.injEq,List.cons.injEq,AV.str.injEq,AV.list.injEq,true_and,and_true]at h;rw[h.1,aga l k h.2]
theorem aga:∀l k:List I,dH l=dH k->l=k
 |[],[],_=>rfl|[],_::_,h=>by simp[dH]at h|_::_,[],h=>by simp[dH]at h|t::r,u::v,h=>by
  simp only[dH,List.cons.injEq]at h;rw[I.FT t u h.1,aga r v h.2]
end
instance:Enc I where
 sz:=2
 enc t:=t.enc
 arg t:=t.arg
 can t:=t.af8
 inj t u h:=I.FT t u h
 cl t:=by rw[t.OQ];rfl
 eS t:=t.eS
 om {γ b off t} h:=by rw[t.OQ]at h;exact t.om h
 lj h:=I.lj h
theorem cp(t:I):Enc.enc t=t.enc:=rfl
theorem cq(s:List UInt8):Enc.enc s=AV.str s:=rfl
theorem cr(b:Bool):Enc.enc b=AV.bool b:=rfl
theorem ct(n:Int):Enc.enc n=AV.int .i64 n:=rfl
theorem cu(n:Nat):Enc.enc n=AV.int .i64 n:=rfl
theorem cv(l:List I):Enc.enc l=AV.list none 2 (l.map I.enc):=rfl
theorem cw(l:List (List UInt8)):Enc.enc l=AV.list none 1 (l.map AV.str):=rfl
theorem cx(l:List Int):Enc.enc l=AV.list none 1 (l.map (AV.int .i64)):=rfl
theorem J0(l:List I):gT l=Enc.enc l:=by rw[gT,oj];rfl
theorem I.b0(t:I):t.enc.cells=[.str t.name,.list none 2 (t.args.map I.enc)]:=by rw[t.qC];rfl
theorem I.j5(t:I):t.eS↔t.name.length<=M/\t.args.length<=M/\∀u∈t.args,u.eS:=by
 obtain⟨n,l⟩:=t;have:∀l,sv l↔∀u∈l,u.eS:=λl=>by
  induction l with
  |nil=>simp[sv]|cons t r ih=>simp[sv,ih]
 simp only[I.eS,I.name,I.args,this]
instance aT.str(s:List UInt8):aT (.str s) s:=aT.enc s
instance aT.bool(b:Bool):aT (.bool b) b:=aT.enc b
instance (priority:=low)aT.int (n:Int):aT (.int .i64 n) n:=aT.enc n
instance aT.aS{α:Type}[Enc α]:aT (.aS (Enc.sz α)) ([]:List α):=⟨rfl,by rw[Qa];rfl⟩
class hD {α:Type} [Enc α] (xs:List AV) (l:outParam (List α)):Prop where
 can:xs.map AV.can=l.map Enc.enc
instance hD.nil{α:Type}[Enc α]:hD (α:=α) [] []:=⟨rfl⟩
instance hD.cons{α:Type}[Enc α]{x:AV}{xs:List AV}{a:α}{l:List α}[h:aT x a][ax:hD xs l]:hD (x::xs) (a::l):=⟨by rw[aKD,aKD,h.can,ax.can]⟩
instance hD.map{α:Type}[Enc α](l:List α):hD (l.map Enc.enc) l:=⟨by rw[aKM];exact aKI λa _=>Enc.can a⟩
instance hD.app{α:Type}[Enc α]{xs ys:List AV}{l m:List α}[h1:hD xs l][ab:hD ys m]:hD (xs++ys) (l++m):=⟨by rw[List.map_append,List.map_append,h1.can,ab.can]⟩
variable {xs:List AV}
theorem aT.list[Enc α](h:hD xs l):aT (.list none (Enc.sz α) xs) l:=⟨rfl,by rw[Ao,h.can];rfl⟩
instance hD.Ap(l:List I):hD (l.map I.enc) l:=hD.map l
instance aT.Ol(t:I):aT t.enc t:=aT.enc t
instance aT.aOb{xs:List AV}{l:List I}[h:hD xs l]:aT (.list none 2 xs) l:=aT.list h
instance hD.strs(l:List (List UInt8)):hD (l.map AV.str) l:=hD.map l
instance aT.aOc{xs:List AV}{l:List (List UInt8)}[h:hD xs l]:aT (.list none 1 xs) l:=aT.list h
instance aT.aOd:aT (.aS 2) ([]:List I):=aT.aS (α:=I)
theorem aA9(c:y.arg=true)(b:y.can=.list none sz xs):y.eH=true:=by
 cases y with
 |list o _ _=>cases o with
  |none=>rfl|some e=>simp[AV.arg,AV.pure,AV.eH]at c
 |aS _=>rfl|hK _=>rfl|agg _=>simp[AV.can]at b|bg _=>simp[AV.can]at b|_=>simp[AV.can]at b
theorem aOe{gl:cQ}{e:Env}{n:Nat}:br gl e (.t n)=(match Env.get e n with|some (.v x)=>some x|_=>none):=_root_.id rfl
def CQ(a:Option AV)(b:Option (List AV)):Option (List AV):=match a,b with|some v,some vs=>some (v::vs)|_,_=>none
theorem aBa(v:AV)(vs:List AV):CQ (some v) (some vs)=some (v::vs):=_root_.id rfl
def Aq:Option dc->Bool|some (.b _)=>false|some (.a _ _)=>false|_=>true
theorem aBb:Aq none=true:=_root_.id rfl
theorem aBc(x:AV):Aq (some (.v x))=true:=_root_.id rfl
variable {d:Nat}
theorem Qc{l:Env} :e9 (N l) d=Aq (Env.get l d):=by unfold e9;rw[qx];rfl
def J1:Option dc->Bool|some (.a _ _)=>true|_=>false
theorem aBd:J1 none=false:=_root_.id rfl
theorem agb{l:Env} :hc (N l) d=J1 (Env.get l d):=by unfold hc;rw[qx];rfl
section
variable {K:au->Prop}{tg:aN K}
def di(s:au)(d:Nat)(x:AV)(K:au->Prop)(_:aN K):Prop:=cC (s.put d x) K ⟨⟩
variable {H:List ay}
theorem aBe{l:Env} :di ⟨N l,H⟩ d x K tg=jj (Aq (Env.get l d)) (λb=>match b with|true=>K ⟨N ((d,.v x)::l),H⟩|false=>False) ⟨⟩:=by
 unfold di au.put;simp only[Qc,Fo];cases Aq (Env.get l d)<;>simp[jj,cC]
def J2(s:au)(d:Nat)(cs:List AV)(K:au->Prop)(_:aN K):Prop:=cC (s.lZ d cs) K ⟨⟩
theorem aBf{l:Env}{cs:List AV}:J2 ⟨N l,H⟩ d cs K tg=jj (yn l [] d) (λb=>match b with|true=>False|false=>jj (J1 (Env.get l d)) (λb=>match b with|true=>False|false=>K ⟨N ((d,.b cs)::l),H⟩) ⟨⟩) ⟨⟩:=by
 unfold J2 au.lZ;simp only[Xo,agb,Fo];cases yn l [] d<;>cases J1 (Env.get l d)<;>simp[jj,cC]
end
def aOf(n:Nat):Option dc->Option l0
 |some (.b _)=>some (.eK n 0)|some (.a t off)=>some (.eK t off)|some (.v (.ptr id off))=>some (.ar id off)|some (.v (.cL cs))=>some (.jV cs)|_=>none
def Qd(n off:Nat):Option dc->Option (List AV)|some (.b cs)=>if off+n<=cs.length then some ((cs.drop off).take n)else none|_=>none
theorem aBg(n off:Nat)(cs:List AV):Qd n off (some (.b cs))=if off+n<=cs.length then some ((cs.drop off).take n)else none:=_root_.id rfl
variable {H:List ay}{n t off:Nat}
theorem aBh{l:Env} :bd ⟨N l,H⟩ n (.eK t off)=Qd n off (Env.get l t):=by unfold bd;simp only[qx];unfold Qd;rfl
def wV(n off:Nat):Option ay->Option (List AV)
 |some (.cells cs)=>if off+n<=cs.length then some ((cs.drop off).take n)else none|some (.buf _ cs)=>if off+n<=cs.length then some ((cs.drop off).take n)else none|_=>none
theorem aBi(n off:Nat)(cs:List AV):wV n off (some (.cells cs))=if off+n<=cs.length then some ((cs.drop off).take n)else none:=_root_.id rfl
theorem CR(n off e:Nat)(cs:List AV):wV n off (some (.buf e cs))=if off+n<=cs.length then some ((cs.drop off).take n)else none:=_root_.id rfl
variable {id:Nat}
theorem agc{e:Env} :bd ⟨e,H⟩ n (.ar id off)=wV n off H[id]?:=by unfold bd wV;rfl
theorem aBj{s:au}{cs:List AV}:bd s n (.jV cs)=if n<=cs.length then some (cs.take n)else none:=_root_.id rfl
def Qe(l:Env)(H:List ay)(t off:Nat)(vs:List AV):Option dc->Option au|some (.b cs)=>if off+vs.length<=cs.length then some ⟨N ((t,.b (setCells cs off vs))::l),H⟩else none|_=>none
theorem aBk(l:Env)(H:List ay)(t off:Nat)(vs cs:List AV):Qe l H t off vs (some (.b cs))=if off+vs.length<=cs.length then some ⟨N ((t,.b (setCells cs off vs))::l),H⟩else none:=_root_.id rfl
variable {vs:List AV}
theorem aBl{l:Env} :bb ⟨N l,H⟩ vs (.eK t off)=Qe l H t off vs (Env.get l t):=by unfold bb;simp only[qx,Fo];unfold Qe;rfl
def tP(e:Env)(H:List ay)(id off:Nat)(vs:List AV):Option ay->Option au
 |some (.cells cs)=>if off+vs.length<=cs.length then some ⟨e,H.set id (.cells (setCells cs off vs))⟩else none|some (.buf t cs)=>if off+vs.length<=cs.length then some ⟨e,H.set id (.buf t (setCells cs off vs))⟩else none|_=>none
theorem aBm(e:Env)(H:List ay)(id off:Nat)(vs cs:List AV):tP e H id off vs (some (.cells cs))=if off+vs.length<=cs.length then some ⟨e,H.set id (.cells (setCells cs off vs))⟩else none:=_root_.id rfl
theorem FU(e:Env)(H:List ay)(id off t:Nat)(vs cs:List AV):tP e H id off vs (some (.buf t cs))=if off+vs.length<=cs.length then some ⟨e,H.set id (.buf t (setCells cs off vs))⟩else none:=_root_.id rfl
theorem agd{e:Env} :bb ⟨e,H⟩ vs (.ar id off)=tP e H id off vs H[id]?:=by unfold bb tP;rfl
def aOg(w:Bool):Option dc->Option Bool|some (.v (.bool b))=>some (b==w)|some (.v (.bg []))=>some false|_=>none
def yD(s:au)(d x:Nat)(K:au->Prop)(_:aN K):AV->Prop
 |.list (some e) sz xs=>if d=x then False else di s x (.list none sz xs) (λs=>di s d (.list (some e) sz xs) K ⟨⟩) ⟨⟩|v=>di s d v.a1 K ⟨⟩
section
variable {s:au}{d x:Nat}{K:au->Prop}{tg:aN K}
theorem aBn(e z:Nat)(xs:List AV):yD s d x K tg (.list (some e) z xs)=if d=x then False else di s x (.list none z xs) (λs=>di s d (.list (some e) z xs) K ⟨⟩) ⟨⟩:=_root_.id rfl
theorem aBo(z:Nat)(xs:List AV):yD s d x K tg (.list none z xs)=di s d (.list none z xs) K ⟨⟩:=_root_.id rfl
theorem aBp(z:Nat):yD s d x K tg (AV.aS z)=di s d (AV.aS z) K ⟨⟩:=_root_.id rfl
theorem aBq(i o n z:Nat):yD s d x K tg (AV.bI i o n z)=di s d (AV.bI i o n z) K ⟨⟩:=_root_.id rfl
end
def ou(m:Nat)(H:List ay):AV->Option AV
 |.list _ _ xs=>if m=1 then some (.int .i64 xs.length)else none|.str b=>if m=0 then some (.int .i64 b.length)else none|.ha=>if m=2 then some (.int .i64 0)else none|.aS _=>if m=1 then some (.int .i64 0)else none|.hK _=>if m=1 then some (.int .i64 0)else none|.bI _ _ n _=>if m=1 then some (.int .i64 n)else none|.map id=>if m=2 then(match H[id]? with|some (.map _ es)=>some (.int .i64 es.length)|_=>none)else none|_=>none
theorem age(o:Option Nat)(z:Nat)(xs:List AV):ou 1 H (.list o z xs)=some (.int .i64 xs.length):=_root_.id rfl
theorem aBr(q:List UInt8):ou 0 H (.str q)=some (.int .i64 q.length):=_root_.id rfl
theorem aBs(z:Nat):ou 1 H (.aS z)=some (.int .i64 0):=_root_.id rfl
theorem aBt(i o n z:Nat):ou 1 H (.bI i o n z)=some (.int .i64 n):=_root_.id rfl
def Qf:Option ay->Option AV|some (.map _ es)=>some (.int .i64 es.length)|_=>none
theorem aBu(n:Nat)(es:List (AV×AV)):Qf (some (.map n es))=some (.int .i64 es.length):=_root_.id rfl
theorem aBv(i:Nat):ou 2 H (.map i)=Qf H[i]?:=by simp only[ou,Qf,if_true]
def CS(sz:Nat):AV->AV->Option AV
 |.list _ dW xs,.int _ n=>if dW=sz/\0<=n/\n<xs.length then(xs[n.toNat]?).map λv=>.cL v.cells else none|.bI id off m dW,.int _ n=>if dW=sz/\0<=n/\n<m then some (.ptr id (off+n.toNat*sz))else none|_,_=>none
theorem agf(sz:Nat)(o:Option Nat)(z:Nat)(xs:List AV)(k:IntKind)(n:Int):CS sz (.list o z xs) (.int k n)=if z=sz/\0<=n/\n<xs.length then(xs[n.toNat]?).map λv=>.cL v.cells else none:=_root_.id rfl
theorem aBw(sz i o m z:Nat)(k:IntKind)(n:Int):CS sz (.bI i o m z) (.int k n)=if z=sz/\0<=n/\n<m then some (.ptr i (o+n.toNat*sz))else none:=_root_.id rfl
def Qg:AV->AV->Option AV
 |.str b,.int _ n=>if 0<=n then(b[n.toNat]?).map λc=>.int .u8 c.toNat else none|_,_=>none
theorem aBx(q:List UInt8)(k:IntKind)(n:Int):Qg (.str q) (.int k n)=if 0<=n then(q[n.toNat]?).map λc=>.int .u8 c.toNat else none:=_root_.id rfl
def J3(nB:Bool)(cs:List AV):Option AV:=if nB=true then some (.agg (cs.map AV.a1))else match cs with|[v]=>some v.a1|_=>none
theorem aBy(cs:List AV):J3 true cs=some (.agg (cs.map AV.a1)):=_root_.id rfl
theorem aBz(v:AV):J3 false [v]=some v.a1:=_root_.id rfl
def J4(k6:Bool):AV->AV->Option AV
 |.int k a,.int _ b=>some (.int k (if k6=true then max a b else min a b))|_,_=>none
theorem aBA(k k':IntKind)(a b:Int):J4 true (.int k a) (.int k' b)=some (.int k (max a b)):=_root_.id rfl
def agh:AV->Option AV|.bool b=>some (.bool (!b))|_=>none
theorem aBC(b:Bool):agh (.bool b)=some (.bool (!b)):=_root_.id rfl
def aOh:AV->Option AV|.int k n=>some (.int k (k.wrap (0-n)))|_=>none
def agi(k:IntKind):AV->Option AV|.int _ n=>some (.int k (k.wrap n))|_=>none
theorem aBD(k k':IntKind)(n:Int):agi k (.int k' n)=some (.int k (k.wrap n)):=_root_.id rfl
def Qh(i:Nat):dc->Option AV|.v (.bg vs)=>(vs[i]?).map AV.a1|_=>none
theorem aBE(i:Nat)(vs:List AV):Qh i (.v (.bg vs))=(vs[i]?).map AV.a1:=_root_.id rfl
def gU(ne:Bool)(ks:List Nat):AV->AV->Option AV
 |.agg a,.agg b=>(vA ks a b).map λr=>.bool (if ne=true then !r else r)|_,_=>none
theorem Ft(ks:List Nat)(a b:List AV):gU false ks (.agg a) (.agg b)=(vA ks a b).map λr=>.bool r:=_root_.id rfl
def CT(s:au)(d off:Nat):l0->Option au
 |.eK t o=>if e9 s.env d then some { s with env:=s.env.ins d (.a t (o+off)) }else none|.ar id o=>s.put d (.ptr id (o+off))|.jV cs=>if off<=cs.length then s.put d (.cL (cs.drop off))else none
section
variable {K:au->Prop}{tg:aN K}{l:Env}{H:List ay}{s:au}{d off:Nat}
theorem aBF(t o:Nat):cC (CT ⟨N l,H⟩ d off (.eK t o)) K tg=jj (Aq (Env.get l d)) (λb=>match b with|true=>K ⟨N ((d,.a t (o+off))::l),H⟩|false=>False) ⟨⟩:=by
 unfold CT;simp only[Qc,Fo];cases Aq (Env.get l d)<;>simp[jj,cC]
theorem aBG(i o:Nat):cC (CT s d off (.ar i o)) K tg=di s d (.ptr i (o+off)) K ⟨⟩:=_root_.id rfl
theorem aBH(cs:List AV):cC (CT s d off (.jV cs)) K tg=if off<=cs.length then di s d (.cL (cs.drop off)) K ⟨⟩else False:=by
 unfold CT;by_cases h:off<=cs.length<;>simp[h,di,cC]
end
def agj(s:au)(d n:Nat):dc->Option au
 |.b _=>if e9 s.env d then some { s with env:=s.env.ins d (.a n 0) }else none|.a t off=>if e9 s.env d then some { s with env:=s.env.ins d (.a t off) }else none|.v (.ptr id off)=>s.put d (.ptr id off)|.v (.cL cs)=>s.put d (.cL cs)|_=>none
section
variable {K:au->Prop}{tg:aN K}{l:Env}{H:List ay}{s:au}{d n:Nat}
theorem aBI(i o:Nat):cC (agj s d n (.v (.ptr i o))) K tg=di s d (.ptr i o) K ⟨⟩:=_root_.id rfl
end
def CU(s:au)(d u e sz:Nat):dc->List AV->Nat->Option au
 |.v (.list (some cB) dW xs),ys,nX=>if cB=e/\dW=sz/\nX=sz/\d≠u/\xs.length+ys.length<=M then(s.put u (.list none sz xs)).bind λs=>s.put d (.list (some e) sz (xs++ys))else none|.v (.aS dW),ys,nX=>if dW=sz/\nX=sz/\d≠u/\ys.length<=M then s.put d (.list (some e) sz ys)else none|_,_,_=>none
section
variable {K:au->Prop}{tg:aN K}{s:au}{d u e sz:Nat}
theorem aBJ(b c:Nat)(xs ys:List AV)(f:Nat):cC (CU s d u e sz (.v (.list (some b) c xs)) ys f) K tg=if b=e/\c=sz/\f=sz/\d≠u/\xs.length+ys.length<=M then di s u (.list none sz xs) (λs=>di s d (.list (some e) sz (xs++ys)) K ⟨⟩) ⟨⟩else False:=by
 unfold CU;by_cases h:b=e/\c=sz/\f=sz/\d≠u/\xs.length+ys.length<=M
 ·simp only[if_pos h,di,cC];cases s.put u (.list none sz xs)<;>rfl
 ·simp only[if_neg h,cC]
theorem aBK(b:Nat)(ys:List AV)(c:Nat):cC (CU s d u e sz (.v (.aS b)) ys c) K tg=if b=sz/\c=sz/\d≠u/\ys.length<=M then di s d (.list (some e) sz ys) K ⟨⟩else False:=by
 unfold CU;by_cases h:b=sz/\c=sz/\d≠u/\ys.length<=M
 ·simp only[if_pos h];rfl
 ·simp only[if_neg h,cC]
end
def u0(jW:Nat)(bc al:Nat->Option Int)(v:AV)(K:AV->Prop)(_:aN K):Prop:=match v with
 |.str b=>bV (bc 0) (λl=>bV (al b.length) (λh=>if jW=0/\0<=l/\l<=h/\h<=b.length then K (.str ((b.take h.toNat).drop l.toNat))else False) ⟨⟩) ⟨⟩|.list _ sz xs=>bV (bc 0) (λl=>bV (al xs.length) (λh=>if jW=sz/\sz≠0/\0<=l/\l<=h/\h<=xs.length then K (.list none sz ((xs.take h.toNat).drop l.toNat))else False) ⟨⟩) ⟨⟩|.aS sz=>bV (bc 0) (λl=>bV (al 0) (λh=>if jW=sz/\sz≠0/\l=0/\h=0 then K (.aS sz)else False) ⟨⟩) ⟨⟩|.bI i o n sz=>bV (bc 0) (λl=>bV (al n) (λh=>if jW=sz/\sz≠0/\0<=l/\l<=h/\h<=n then(if 0<l/\l=h then K (.list none sz [])else K (.bI i (o+l.toNat*sz) (h.toNat-l.toNat) sz))else False) ⟨⟩) ⟨⟩|_=>False
section
variable {jW:Nat}{bc al:Nat->Option Int}{l h:Int}{K:AV->Prop}{tg:aN K}
theorem aBL(b:List UInt8):u0 jW bc al (.str b) K tg=bV (bc 0) (λl=>bV (al b.length) (λh=>if jW=0/\0<=l/\l<=h/\h<=b.length then K (.str ((b.take h.toNat).drop l.toNat))else False) ⟨⟩) ⟨⟩:=_root_.id rfl
theorem aBM(o:Option Nat)(sz:Nat)(xs:List AV):u0 jW bc al (.list o sz xs) K tg=bV (bc 0) (λl=>bV (al xs.length) (λh=>if jW=sz/\sz≠0/\0<=l/\l<=h/\h<=xs.length then K (.list none sz ((xs.take h.toNat).drop l.toNat))else False) ⟨⟩) ⟨⟩:=_root_.id rfl
theorem agk(sz:Nat):u0 jW bc al (.aS sz) K tg=bV (bc 0) (λl=>bV (al 0) (λh=>if jW=sz/\sz≠0/\l=0/\h=0 then K (.aS sz)else False) ⟨⟩) ⟨⟩:=_root_.id rfl
theorem agl(i o n sz:Nat):u0 jW bc al (.bI i o n sz) K tg=bV (bc 0) (λl=>bV (al n) (λh=>if jW=sz/\sz≠0/\0<=l/\l<=h/\h<=n then(if 0<l/\l=h then K (.list none sz [])else K (.bI i (o+l.toNat*sz) (h.toNat-l.toNat) sz))else False) ⟨⟩) ⟨⟩:=_root_.id rfl
end
theorem aBN(k:IntKind)(a:Int):Bl .shr k a 1=some (.int k (a / 2)):=by cases k<;>simp[Bl,IntKind.bits]
section
variable {P:Program}{gl:cQ}{D:bj}{s:au}{K:au->Prop}{t:aN K}
variable {o:Option α}{tg:aN K}
theorem lJ{f:α->Option au} :cC (o.bind f) K tg=bV o (λv=>cC (f v) K ⟨⟩) ⟨⟩:=by cases o<;>rfl
theorem J5{β:Type}{f:α->β}{K:β->Prop}{tg:aN K}:bV (o.map f) K tg=bV o (λv=>K (f v)) ⟨⟩:=by cases o<;>rfl
theorem aBO{p:Prop}[Decidable p]{x:Option α}{K:α->Prop}{tg:aN K}(h:p):bV (if p then x else none) K tg=bV x K ⟨⟩:=by simp only[if_pos h]
variable {x:aL}
theorem aBP :b4 P gl D s K t (.hV d x)=bV (br gl s.env x) (λv=>di s d v.a1 K ⟨⟩) ⟨⟩:=by
 rw[Xx];simp only[aJ,lJ];rfl
theorem aBQ{x:Nat}:b4 P gl D s K t (.p9 d x)=bV (br gl s.env (.t x)) (λv=>yD s d x K ⟨⟩ v) ⟨⟩:=by
 rw[Xy];simp only[aJ,br];cases Env.get s.env x with
 |none=>rfl|some e=>cases e with
  |v y=>cases y with
   |list o sz xs=>cases o with
    |none=>rfl|some e =>
     simp only[yD,bV];by_cases h:d=x
     ·simp only[h,if_true];rfl
     ·simp only[h,if_false,lJ,di];cases s.put x (.list none sz xs)<;>rfl
   |_=>rfl
  |_=>rfl
theorem aBR{e:Nat}:b4 P gl D s K t (.sZ d e sz)=di s d (.list (some e) sz []) K ⟨⟩:=_root_.id rfl
def agm(v:AV)(K:Bool->Prop)(_:aN K):Prop:=match v with|.bool b=>jj b K ⟨⟩|_=>False
theorem agn{b:Bool}{K:Bool->Prop}{tg:aN K}:agm (.bool b) K tg=jj b K ⟨⟩:=_root_.id rfl
theorem aBS{c a b:aL}:b4 P gl D s K t (.pick d c a b)=bV (br gl s.env c) (λv=>agm v (λq=>match q with|true=>bV (br gl s.env a) (λv=>di s d v.a1 K ⟨⟩) ⟨⟩|false=>bV (br gl s.env b) (λv=>di s d v.a1 K ⟨⟩) ⟨⟩) ⟨⟩) ⟨⟩:=by
 rw[Xz];simp only[aJ];cases br gl s.env c with
 |none=>rfl|some v=>cases v with
  |bool q=>cases q<;>simp only[lJ,eI,agn,Xp,Xq,Bool.false_eq_true,if_true,if_false]<;>rfl|_=>rfl
variable {m:Nat}{y:aL}
theorem aBT{op:BinOp} :b4 P gl D s K t (.bin d m op x y)=bV (br gl s.env x) (λa=>bV (br gl s.env y) (λb=>bV (Hw m op a b) (λv=>di s d v K ⟨⟩) ⟨⟩) ⟨⟩) ⟨⟩:=by
 rw[XA];simp only[aJ];cases br gl s.env x with
 |none=>rfl|some a=>cases br gl s.env y with
  |none=>rfl|some b=>simp only[lJ];rfl
theorem aBU :b4 P gl D s K t (.qa d x)=bV (br gl s.env x) (λa=>bV (agh a) (λv=>di s d v K ⟨⟩) ⟨⟩) ⟨⟩:=by
 rw[XB];simp only[aJ];cases br gl s.env x with
 |none=>rfl|some a=>cases a<;>rfl
theorem aBV{k:IntKind} :b4 P gl D s K t (.conv d k x)=bV (br gl s.env x) (λa=>bV (agi k a) (λv=>di s d v K ⟨⟩) ⟨⟩) ⟨⟩:=by
 rw[XC];simp only[aJ];cases br gl s.env x with
 |none=>rfl|some a=>cases a<;>rfl
theorem aBW{x i:Nat}:b4 P gl D s K t (.ext d x i)=bV (Env.get s.env x) (λe=>bV (Qh i e) (λv=>di s d v K ⟨⟩) ⟨⟩) ⟨⟩:=by
 rw[XD];simp only[aJ];cases Env.get s.env x with
 |none=>rfl|some e=>cases e with
  |v y=>cases y with
   |bg vs=>simp only[lJ,eI,Qh,J5];rfl|_=>rfl
  |_=>rfl
theorem Wc{ne:Bool}{ks:List Nat} :b4 P gl D s K t (.ur d ne ks x y)=bV (br gl s.env x) (λa=>bV (br gl s.env y) (λb=>bV (gU ne ks a b) (λv=>di s d v K ⟨⟩) ⟨⟩) ⟨⟩) ⟨⟩:=by
 rw[atg];simp only[aJ];cases br gl s.env x with
 |none=>rfl|some a=>cases br gl s.env y with
  |none=>cases a<;>rfl|some b=>cases a with
   |agg a=>cases b with
    |agg b=>simp only[lJ,eI,gU,J5];rfl|_=>rfl
   |_=>rfl
theorem aBX :b4 P gl D s K t (.len d m x)=bV (br gl s.env x) (λa=>bV (ou m s.heap a) (λv=>di s d v K ⟨⟩) ⟨⟩) ⟨⟩:=by
 rw[XE];simp only[aJ];cases br gl s.env x with
 |none=>rfl|some a=>cases a with
  |list o z xs=>simp only[ou,eI];split<;>rfl|str q=>simp only[ou,eI];split<;>rfl|ha=>simp only[ou,eI];split<;>rfl|aS z=>simp only[ou,eI];split<;>rfl|hK z=>simp only[ou,eI];split<;>rfl|bI i o n z=>simp only[ou,eI];split<;>rfl|map i =>
   simp only[ou,eI];split
   ·cases s.heap[i]? with
    |none=>rfl|some bM=>cases bM<;>rfl
   ·rfl
  |_=>rfl
variable {z:List AV}
theorem aBY :b4 P gl D s K t (.alloc d z)=J2 s d z K ⟨⟩:=_root_.id rfl
theorem aBZ :b4 P gl D s K t (.box d x)=bV (br gl s.env x) (λv=>if v.cells.all AV.one then J2 s d (v.cells.map AV.a1) K ⟨⟩else False) ⟨⟩:=by
 rw[XF];simp only[aJ,lJ];cases br gl s.env x with
 |none=>rfl|some v=>simp only[eI];split<;>rfl
theorem aB0 :b4 P gl D s K t (.s3 d x)=bV (br gl s.env x) (λv=>if v.cells.all AV.eH then di s d (.cL v.cells) K ⟨⟩else False) ⟨⟩:=by
 rw[XH];simp only[aJ,lJ];cases br gl s.env x with
 |none=>rfl|some v=>simp only[eI];split<;>rfl
theorem aB1 :b4 P gl D s K t (.s0 d x)=bV (br gl s.env x) (λv=>if v.cells.all AV.one then di { s with heap:=s.heap++[ay.cells (v.cells.map AV.a1)] } d (.ptr s.heap.length 0) K ⟨⟩else False) ⟨⟩:=by
 rw[XG];simp only[aJ,lJ];cases br gl s.env x with
 |none=>rfl|some v=>simp only[eI];split<;>rfl
theorem aB2 :b4 P gl D s K t (.kc d z)=di { s with heap:=s.heap++[ay.cells z] } d (.ptr s.heap.length 0) K ⟨⟩:=_root_.id rfl
theorem aB3{parts:List (Nat×Nat×aL)}:b4 P gl D s K t (.build d z parts)=bV (oL gl s.env z parts) (λcs=>di s d (.agg cs) K ⟨⟩) ⟨⟩:=by
 rw[XI];simp only[aJ,lJ];rfl
variable {xs:List aL}
theorem aB4 :b4 P gl D s K t (.lit d sz xs)=bV (e8 gl s.env xs) (λvs=>if vs.all (λv=>v.a1.pure&&v.cells.length==sz)&&decide (vs.length<=1000)then di s d (.list none sz (vs.map AV.a1)) K ⟨⟩else False) ⟨⟩:=by
 rw[XJ];simp only[aJ,lJ];cases e8 gl s.env xs with
 |none=>rfl|some v=>simp only[eI];split<;>rfl
theorem aB5{e:Nat} :b4 P gl D s K t (.nV d e sz xs)=bV (e8 gl s.env xs) (λvs=>if vs.all (λv=>v.a1.pure&&v.cells.length==sz)&&decide (vs.length<=1000)then di s d (.list (some e) sz (vs.map AV.a1)) K ⟨⟩else False) ⟨⟩:=by
 show cC (aJ gl s (.nV d e sz xs)) K ⟨⟩=_;simp only[aJ,lJ];cases e8 gl s.env xs with
 |none=>rfl|some v=>simp only[eI];split<;>rfl
theorem aB6{e:Nat} :b4 P gl D s K t (.s4 d e sz xs)=bV (e8 gl s.env xs) (λvs=>if vs.all (λv=>v.cells.length==sz&&v.cells.all AV.one)&&decide (vs.length<=1000)&&sz != 0 then di { s with heap:=s.heap++[ay.buf e (vs.map λv:AV=>v.cells.map AV.a1).flatten,.dead] } d (.bI s.heap.length 0 vs.length sz) K ⟨⟩else False) ⟨⟩:=by
 rw[X7];simp only[aJ,lJ];cases e8 gl s.env xs with
 |none=>rfl|some v=>simp only[eI];split<;>rfl
theorem aB7 :b4 P gl D s K t (.fz d x off)=bV (eQ gl s.env x) (λp=>cC (CT s d off p) K ⟨⟩) ⟨⟩:=by
 rw[XK];simp only[aJ];cases eQ gl s.env x with
 |none=>rfl|some p=>cases p<;>rfl
variable {i:aL}
theorem aB8 :b4 P gl D s K t (.lV d sz x i)=bV (br gl s.env x) (λa=>bV (br gl s.env i) (λb=>bV (CS sz a b) (λv=>di s d v K ⟨⟩) ⟨⟩) ⟨⟩) ⟨⟩:=by
 rw[XL];simp only[aJ];cases br gl s.env x with
 |none=>rfl|some a=>cases br gl s.env i with
  |none=>cases a<;>rfl|some b=>cases a with
   |list o z xs=>cases b with
    |int k n =>
     simp only[eI,CS];split
     ·simp only[lJ,J5];rfl
     ·rfl
    |_=>rfl
   |bI i o n z=>cases b with
    |int k n =>
     simp only[eI,CS];split<;>rfl
    |_=>rfl
   |_=>rfl
variable {nB:Bool}
theorem aB9 :b4 P gl D s K t (.ld d x n nB)=bV (eQ gl s.env x) (λp=>bV (bd s n p) (λcs=>bV (J3 nB cs) (λv=>di s d v K ⟨⟩) ⟨⟩) ⟨⟩) ⟨⟩:=by
 rw[XN];simp only[aJ,lJ];cases eQ gl s.env x with
 |none=>rfl|some p =>
  simp only[eI];cases bd s n p with
  |none=>rfl|some cs =>
   simp only[eI,J3,Option.bind_some];cases nB with
   |true=>rfl|false=>match cs with
    |[]=>rfl|[_]=>rfl|_::_::_=>rfl
theorem aCa{v:aL}:b4 P gl D s K t (.st n x v)=bV (eQ gl s.env x) (λp=>bV (br gl s.env v) (λv=>if v.cells.length=n/\v.cells.all AV.one then cC (bb s (v.cells.map AV.a1) p) K ⟨⟩else False) ⟨⟩) ⟨⟩:=by
 rw[XP];simp only[aJ,lJ];cases eQ gl s.env x with
 |none=>rfl|some p =>
  simp only[eI];cases br gl s.env v with
  |none=>rfl|some v =>
   simp only[eI,Option.bind_some];by_cases h:v.cells.length=n/\v.cells.all AV.one=true
   ·simp only[if_pos h]
   ·simp only[if_neg h];rfl
theorem aCb :b4 P gl D s K t (.idx d x i)=bV (br gl s.env x) (λa=>bV (br gl s.env i) (λb=>bV (Qg a b) (λv=>di s d v K ⟨⟩) ⟨⟩) ⟨⟩) ⟨⟩:=by
 rw[XR];simp only[aJ];cases br gl s.env x with
 |none=>rfl|some a=>cases br gl s.env i with
  |none=>cases a<;>rfl|some b=>cases a with
   |str q=>cases b with
    |int k n =>
     simp only[eI,Qg];split
     ·simp only[lJ,J5];rfl
     ·rfl
    |_=>rfl
   |_=>rfl
theorem aCc{bc al:Option aL}:b4 P gl D s K t (.qb d sz x bc al)=bV (br gl s.env x) (λa=>u0 sz (λn=>h9 gl s.env n bc) (λn=>h9 gl s.env n al) a (λv=>di s d v K ⟨⟩) ⟨⟩) ⟨⟩:=by
 rw[XS];simp only[aJ];cases br gl s.env x with
 |none=>rfl|some a=>cases a with
  |str b =>
   simp only[eI,u0];cases h9 gl s.env 0 bc with
   |none=>rfl|some l=>cases h9 gl s.env b.length al with
    |none=>rfl|some h =>
     simp only[eI];split<;>rfl
  |list o z xs =>
   simp only[eI,u0];cases h9 gl s.env 0 bc with
   |none=>rfl|some l=>cases h9 gl s.env xs.length al with
    |none=>rfl|some h =>
     simp only[eI];split<;>rfl
  |aS z =>
   simp only[eI,u0];cases h9 gl s.env 0 bc with
   |none=>rfl|some l=>cases h9 gl s.env 0 al with
    |none=>rfl|some h =>
     simp only[eI];split<;>rfl
  |bI i o n z =>
   simp only[eI,u0];cases h9 gl s.env 0 bc with
   |none=>rfl|some l=>cases h9 gl s.env n al with
    |none=>rfl|some h =>
     simp only[eI];split
     ·split<;>rfl
     ·rfl
  |_=>rfl
def ago(s:au)(d u e sz:Nat)(qD:dc)(K:au->Prop)(_:aN K):Option (Nat×List AV)->Prop
 |some (z,ys)=>cC (CU s d u e sz qD ys z) K ⟨⟩|none=>False
variable {u:Nat}
theorem aCd{e:Nat}{b:dc}{z:Nat}{ys:List AV} :ago s d u e sz b K tg (some (z,ys))=cC (CU s d u e sz b ys z) K ⟨⟩:=_root_.id rfl
theorem aCe{e:Nat}:b4 P gl D s K t (.app d u x e sz)=bV (Env.get s.env u) (λb=>bV (br gl s.env x) (λy=>ago s d u e sz b K ⟨⟩ y.ju) ⟨⟩) ⟨⟩:=by
 rw[XU];simp only[aJ];cases Env.get s.env u with
 |none=>rfl|some b =>
  cases br gl s.env x with
  |none=>cases b with
   |v y=>cases y with
    |list o z xs=>cases o<;>rfl|_=>rfl
   |_=>rfl
  |some y =>
   simp only[Option.bind_some,eI];cases y.ju with
   |none=>cases b with
    |v y=>cases y with
     |list o z xs=>cases o<;>rfl|_=>rfl
    |_=>rfl
   |some q =>
    obtain⟨z,c⟩:=q;cases b with
    |v y=>cases y with
     |list o f xs=>cases o<;>rfl|_=>rfl
    |_=>rfl
theorem aCf :b4 P gl D s K t (.hL d (.t n))=bV (Env.get s.env n) (λe=>cC (agj s d n e) K ⟨⟩) ⟨⟩:=by
 rw[XV];simp only[aJ];cases Env.get s.env n with
 |none=>rfl|some e=>cases e with
  |v y=>cases y<;>rfl|_=>rfl
theorem aCg{k6:Bool} :b4 P gl D s K t (.r5 d k6 x y)=bV (br gl s.env x) (λa=>bV (br gl s.env y) (λb=>bV (J4 k6 a b) (λv=>di s d v K ⟨⟩) ⟨⟩) ⟨⟩) ⟨⟩:=by
 rw[XZ];simp only[aJ];cases br gl s.env x with
 |none=>rfl|some a=>cases br gl s.env y with
  |none=>cases a<;>rfl|some b=>cases a with
   |int k a=>cases b with
    |int k' b =>
     simp only[eI,J4];have c:(if b>a then b else a)=max a b:=by rw[Int.max_def];split<;>split<;>omega
     have e:(if b<a then b else a)=min a b:=by rw[Int.min_def];split<;>split<;>omega
     rw[c,e];rfl
    |_=>rfl
   |_=>rfl
def qE(m:Nat)(P:Program)(gl:cQ)(D:bj)(s:au)(K:au->Prop)(_:aN K)(o:cW)(k:Nat):Prop:=if k=m then b4 P gl D s K ⟨⟩ o else False
theorem aCh{o:cW} :qE m P gl D s K tg o m=b4 P gl D s K ⟨⟩ o:=by simp only[qE,if_true]
theorem aCi :b4 P gl D s K t (.on m (.fz d x off))=qE m P gl D s K ⟨⟩ (.fz d x off) (eV s.env x):=by
 show cC (if eV s.env x=m then aJ gl s (.fz d x off)else none) K ⟨⟩=_;unfold qE;by_cases h:eV s.env x=m
 ·rw[if_pos h,if_pos h];rfl
 ·rw[if_neg h,if_neg h];rfl
theorem aCj :b4 P gl D s K t (.on m (.ld d x n nB))=qE m P gl D s K ⟨⟩ (.ld d x n nB) (eV s.env x):=by
 show cC (if eV s.env x=m then aJ gl s (.ld d x n nB)else none) K ⟨⟩=_;unfold qE;by_cases h:eV s.env x=m
 ·rw[if_pos h,if_pos h];rfl
 ·rw[if_neg h,if_neg h];rfl
theorem aCk{e:Nat} :b4 P gl D s K t (.on m (.je d x e sz))=qE m P gl D s K ⟨⟩ (.je d x e sz) (eV s.env x):=by
 show cC (if eV s.env x=m then aJ gl s (.je d x e sz)else none) K ⟨⟩=_;unfold qE;by_cases h:eV s.env x=m
 ·rw[if_pos h,if_pos h];rfl
 ·rw[if_neg h,if_neg h];rfl
theorem aCl{v:aL}:b4 P gl D s K t (.on m (.st n x v))=qE m P gl D s K ⟨⟩ (.st n x v) (eV s.env x):=by
 show cC (if eV s.env x=m then aJ gl s (.st n x v)else none) K ⟨⟩=_;unfold qE;by_cases h:eV s.env x=m
 ·rw[if_pos h,if_pos h];rfl
 ·rw[if_neg h,if_neg h];rfl
theorem aCm{v0:Nat}:b4 P gl D s K t (.on m (.ir x v0))=qE m P gl D s K ⟨⟩ (.ir x v0) (eV s.env x):=by
 show cC (if eV s.env x=m then aJ gl s (.ir x v0)else none) K ⟨⟩=_;unfold qE;by_cases h:eV s.env x=m
 ·rw[if_pos h,if_pos h];rfl
 ·rw[if_neg h,if_neg h];rfl
theorem aCn :b4 P gl D s K t (.on m (.hL d x))=qE m P gl D s K ⟨⟩ (.hL d x) (eV s.env x):=by
 show cC (if eV s.env x=m then aJ gl s (.hL d x)else none) K ⟨⟩=_;unfold qE;by_cases h:eV s.env x=m
 ·rw[if_pos h,if_pos h];rfl
 ·rw[if_neg h,if_neg h];rfl
end
attribute [go_sem ↓ 2000] aCi aCj aCk aCl aCm aCn aBP aBQ aBR aBS aBT aBU aBV aBW Wc aBX aBY aBZ aB0 aB1 aB2 aB3 aB4 aB5 aB6 aB7 aB8 aB9 aCa aCb aCc aCe aCf aCg
attribute [go_sem 2000] aBa aBb aBc Qc aBd agb aBe aBf aBg aBh aBi CR agc aBj aBk aBl aBm FU agd aBn aBo aBp aBq age aBr aBs aBt aBu aBv agf aBw aBx aBy aBz aBA aBC aBD aBE Ft aBF aBG aBH aBI aBJ aBK aBL aBM agk agl aBN agn lJ J5 aBO aCd aCh
open Enc (enc)
instance:Inhabited I:=⟨.mk [] []⟩
class bt (D D':bj):Prop where
 h:∀f xs r,D' f xs=some r->D f xs=some r
instance bt.refl(D:bj):bt D D:=⟨λ_ _ _ h=>h⟩
def ij(A B:bj):bj:=λf xs=>match A f xs with|some r=>some r|none=>B f xs
variable {A B:bj}
theorem bt.ke{D:bj}(h:bt D (ij A B)):bt D A:=⟨λf xs r b=>h.h f xs r (by simp only[ij,b])⟩
def fq(D:bj)(ks:List Nat):Prop:=∀f xs,ks.contains f=false->D f xs=none
variable {ks:List Nat}
theorem fq.or{ls:List Nat}(b:fq A ks)(c:fq B ls):fq (ij A B) (ls++ks):=λf xs h=>by
 rw[Xl]at h;simp only[Bool.or_eq_false_iff]at h;simp only[ij,b f xs h.2,c f xs h.1]
abbrev iZ:=Nat×(List AV->Option AV)
def e1:List iZ->bj
 |[],_,_=>none|(k,F)::r,f,xs=>if f=k then F xs else e1 r f xs
theorem kf:∀l:List iZ,fq (e1 l) (l.map Prod.fst)
 |[],f,xs,_=>rfl|(k,F)::r,f,xs,h=>by
  simp only[aKD,List.contains_cons,Bool.or_eq_false_iff,beq_eq_false_iff_ne]at h;simp only[e1,if_neg h.1,kf r f xs h.2]
theorem kg(hd:fq A ks){f:Nat}(hk:ks.contains f=false) :ij A B f xs=B f xs:=by simp only[ij,hd f xs hk]
section
open Classical
variable {α β pR FV:Type}[Enc α][Enc β][Enc pR][Enc FV]
noncomputable def eh(F:α->AV):List AV->Option AV
 |[x]=>if h:∃a:α,aT x a then some (F h.choose)else none|_=>none
noncomputable def hj(F:α->β->AV):List AV->Option AV
 |[x,y]=>if h:∃a:α×β,aT x a.1/\aT y a.2 then some (F h.choose.1 h.choose.2)else none|_=>none
noncomputable def qF(F:α->β->pR->AV):List AV->Option AV
 |[x,y,z]=>if h:∃a:α×β×pR,aT x a.1/\aT y a.2.1/\aT z a.2.2 then some (F h.choose.1 h.choose.2.1 h.choose.2.2)else none|_=>none
variable {a:α}
theorem Qi{F:α->AV}(h:aT x a):eh F [x]=some (F a):=by
 have ah:∃a:α,aT x a:=⟨a,h⟩;simp only[eh,dif_pos ah,ah.choose_spec.uniq h]
variable {b:β}
theorem agp{F:α->β->AV}(c:aT x a)(e:aT y b):hj F [x,y]=some (F a b):=by
 have ah:∃a:α×β,aT x a.1/\aT y a.2:=⟨(a,b),c,e⟩;simp only[hj,dif_pos ah,ah.choose_spec.1.uniq c,ah.choose_spec.2.uniq e]
theorem Qj{F:α->β->pR->AV}{z:AV}{c:pR}(e:aT x a)(f:aT y b)(g:aT z c):qF F [x,y,z]=some (F a b c):=by
 have ah:∃a:α×β×pR,aT x a.1/\aT y a.2.1/\aT z a.2.2:=⟨(a,b,c),e,f,g⟩;simp only[qF,dif_pos ah,ah.choose_spec.1.uniq e,ah.choose_spec.2.1.uniq f,ah.choose_spec.2.2.uniq g]
end
def nI:List AV->Option (List AV)
 |[]=>some []|x::r=>CQ (some x.a1) (nI r)
theorem aCo:nI []=some []:=id rfl
theorem agq(x:AV)(r:List AV):nI (x::r)=CQ (some x.a1) (nI r):=id rfl
theorem Ar:∀l:List AV,nI l=some (l.map AV.a1)
 |[]=>rfl|x::r=>by rw[agq,Ar r];rfl
def b1(P:Program)(gl:cQ)(D:bj)(f:Nat)(vs:List AV)(K:AV->Prop)(_:aN K):Prop :=
 vs.all AV.arg=true/\bV (D f vs) (λr=>aA P gl f vs r/\K r) ⟨⟩
section
variable {P:Program}{gl:cQ}{D D':bj}{f:Nat}{K:AV->Prop}{tg:aN K}
theorem aCp{d:Option Nat}{xs:List aL}{s:au}{K:au->Prop}{t:aN K}:b4 P gl D s K t (.eP d f xs)=bV (e8 gl s.env xs) (λvs=>bV (nI vs) (λvs=>b1 P gl D f vs (λr=>cC (s.fO d r) K ⟨⟩) ⟨⟩) ⟨⟩) ⟨⟩:=by
 rw[Xr];cases e8 gl s.env xs with
 |none=>rfl|some vs =>
  show _=bV (nI vs) _ ⟨⟩;rw[Ar];rfl
variable {r:AV}
theorem u1(aG:vs.all AV.arg=true)(hd:D f vs=some r)(b:aA P gl f vs r):b1 P gl D f vs K tg=K r:=by
 simp only[b1,aG,hd,eI,b,true_and]
theorem aCq(hd:D' f []=some r)(b:aA P gl f [] r)[hk:bt D D']:b1 P gl D f [] K tg=K r :=
 u1 rfl (hk.h _ _ _ hd) b
variable {α β pR FV:Type}[Enc α][Enc β][Enc pR][Enc FV]
variable {a:α}
theorem ec{F:α->AV}[b:aT x a](hd:∀xs,D' f xs=eh F xs)(c:aA P gl f [enc a] (F a))[hk:bt D D']:b1 P gl D f [x] K tg=K (F a) :=
 u1 (by simp only[aKF,b.arg,aKJ,aKK]) (hk.h _ _ _ (by rw[hd,Qi b])) (c.args (.cons b.kX .nil))
variable {b:β}
theorem ik{F:α->β->AV}[c:aT x a][e:aT y b](hd:∀xs,D' f xs=hj F xs)(g:aA P gl f [enc a,enc b] (F a b))[hk:bt D D']:b1 P gl D f [x,y] K tg=K (F a b) :=
 u1 (by simp only[aKF,c.arg,e.arg,aKJ,aKK]) (hk.h _ _ _ (by rw[hd,agp c e])) (g.args (.cons c.kX (.cons e.kX .nil)))
theorem u2{F:α->β->pR->AV}{z:AV}{c:pR}[e:aT x a][g:aT y b][h:aT z c](hd:∀xs,D' f xs=qF F xs)(i:aA P gl f [enc a,enc b,enc c] (F a b c))[hk:bt D D']:b1 P gl D f [x,y,z] K tg=K (F a b c) :=
 u1 (by simp only[aKF,e.arg,g.arg,h.arg,aKJ,aKK]) (hk.h _ _ _ (by rw[hd,Qj e g h])) (i.args (.cons e.kX (.cons g.kX (.cons h.kX .nil))))
end
section
variable {K:Bool->Prop}{tg:aN K}
variable {b:Bool}
theorem J6(h:b=true):jj b K tg=K true:=by subst h;rfl
theorem J7(h:b=false):jj b K tg=K false:=by subst h;rfl
variable {p:Prop}
theorem aCr[Decidable p](h:p):jj (decide p) K tg=K true:=J6 (decide_eq_true h)
theorem aCs[Decidable p](h:¬p):jj (decide p) K tg=K false:=J7 (decide_eq_false h)
variable {a b:Int}
theorem aCt(h:a=b):jj (a==b) K tg=K true:=J6 (by simp[h])
theorem aCu(h:a≠b):jj (a==b) K tg=K false:=J7 (by simp[h])
theorem aCv(h:a≠b):jj (a != b) K tg=K true:=J6 (by simp[h])
theorem aCw(h:a=b):jj (a != b) K tg=K false:=J7 (by simp[h])
theorem aCx{b:Bool}:jj (!b) K tg=jj b (λc=>K (!c)) ⟨⟩:=rfl
end
class FW (b:Bool) (p q:outParam Prop):Prop where
 t:p\/q
 h:(b=true->p)/\(b=false->q)
instance {p:Prop}[Decidable p]:FW (decide p) p (¬p):=⟨Decidable.em p,λh=>of_decide_eq_true h,λh=>of_decide_eq_false h⟩
instance {a b:Int}:FW (a==b) (a=b) (a≠b):=⟨Decidable.em _,λh=>f8,λh=>f8⟩
instance {a b:Int}:FW (a != b) (a≠b) (a=b):=⟨(Decidable.em (a=b)).symm,λh=>f8,λh=>f8⟩
instance (priority:=low){b:Bool}:FW b (b=true) (b=false):=⟨by cases b<;>simp,λh=>h,λh=>h⟩
variable {b:Bool}{p:Prop}
theorem ao{K:Bool->Prop}{tg:aN K}{q:Prop}[i:FW b p q](c:p->jj true K ⟨⟩)(e:q->jj false K ⟨⟩):jj b K tg:=by
 cases b
 ·exact e (i.h.2 rfl)
 ·exact c (i.h.1 rfl)
theorem aCy{x y:α}(h:b=true):(if b=true then x else y)=x:=if_pos h
theorem aCz[Decidable p]{x y:α}(h:p):(if decide p=true then x else y)=x:=if_pos (decide_eq_true h)
theorem aCB[Decidable p]{x:Option au}{K:au->Prop}{tg:aN K}(h:p):cC (if p then x else none) K tg=cC x K ⟨⟩:=by simp only[if_pos h]
theorem agr[Inhabited α]{f:α->AV}(h:n<l.length):(l.map f)[n]?=some (f l[n]!):=by grind
theorem Qk[Inhabited α](h:n<l.length):l[n]?=some l[n]!:=by
 rw[List.getElem?_eq_getElem h];simp[h]
theorem ek[Inhabited α](h:n<l.length):l[n]!∈l:=by grind
theorem bL{α:Type}[Inhabited α]{l:List α}{i:Nat}(h:i<l.length):l.take (i+1)=l.take i++[l[i]!]:=aCC (Qk h)
  where aCC {α:Type} {l:List α} {i:Nat} {x:α} (h:l[i]?=some x):l.take (i+1)=l.take i++[x]:=by rw[List.take_add_one,h];rfl
theorem fi[Inhabited α]{i:Nat}(h:i<l.length):l.drop i=l[i]!::l.drop (i+1):=by
 rw[List.drop_eq_getElem_cons h];simp[h]
theorem cy(m n:Nat):((max m n:Nat):Int)=max (m:Int) n:=by omega
theorem cz(m n:Nat):((min m n:Nat):Int)=min (m:Int) n:=by omega
theorem aCD{n:Int}(h : -9223372036854775808<=n/\n<9223372036854775808):IntKind.i64.wrap n=n:=wrap64 h.1 h.2
section
variable {P:Program}{gl:cQ}
variable {f:Nat}{r:AV}
theorem aA.h4[Enc α](h:Enc.eS a->aA P gl f (enc a::xs) r):aA P gl f (enc a::xs) r :=
 aA.assume (λ_ _ h=>by cases h with|cons _ _ _ _ h _=>exact Enc.lj h) h
theorem aA.sy{β:Type}[Enc α][Enc β]{b:β}(h:Enc.eS a->Enc.eS b->aA P gl f (enc a::enc b::xs) r):aA P gl f (enc a::enc b::xs) r :=
 aA.assume (B:=Enc.eS a/\Enc.eS b) (λ_ _ h=>by cases h with|cons _ _ _ _ h c=>cases c with|cons _ _ _ _ c _=>exact⟨Enc.lj h,Enc.lj c⟩) λc=>h c.1 c.2
end
attribute [go_sem ↓ 2000] aCp
attribute [go_sem] J6 J7 aCr aCs aCt aCu aCv aCw aCx aCy aCz aCB agr aCD
attribute [go_sem] I.arg I.res I.a1 I.b0 cp cq cr ct cu cv cw cx
theorem I.fold(t:I):AV.agg [.str t.name,.list none 2 (t.args.map I.enc)]=t.enc:=t.qC.symm
attribute [go_sem] aCo agq I.fold
attribute [go_sem] Int.toNat_natCast Int.natCast_add Int.natCast_one List.length_map
open Enc (enc)
theorem As :∀{cs:List AV}{b off:Nat},fB γ b off cs->∀c∈cs,∃v,dr γ c v
 |_,_,_,.nil _ _,c,h=>by cases h|_,_,_,.cons _ _ x r v _ _ h1 e,c,h=>by
  rcases aKB.1 h with rfl|h
  ·exact⟨v,h1⟩
  ·exact As e c h
theorem Au{g:bD}:∀{cs:List AV}{ws:List Value},cS g cs ws->∀c∈cs,∃v,bn g c v
 |_,_,.nil,c,h=>by cases h|_,_,.cons x r v ws h1 e,c,h=>by
  rcases aKB.1 h with rfl|h
  ·exact⟨v,h1⟩
  ·exact Au e c h
class ht (c:AV) (p:outParam Prop):Prop where
 sA:∀{γ:fA}{v:Value},dr γ c v->p
 ov:∀{g:bD}{v:Value},bn g c v->p
instance (s:List UInt8):ht (.str s) (s.length<=M):=⟨af6,λh=>h.IV⟩
instance (b:Bool):ht (.bool b) True:=⟨λ_=>trivial,λ_=>trivial⟩
instance (k:IntKind)(n:Int):ht (.int k n) True:=⟨λ_=>trivial,λ_=>trivial⟩
instance {α:Type}[Enc α](l:List α):ht (.list none (Enc.sz α) (l.map Enc.enc)) (l.length<=M/\∀a∈l,Enc.eS a):=⟨CP,λh=>by
 cases h with
 |pure _ _ h=>exact CP h⟩
instance ht.Ap(l:List I):ht (.list none 2 (l.map I.enc)) (l.length<=M/\∀a∈l,a.eS):=⟨λh=>CP (α:=I) h,λh=>by
 cases h with
 |pure _ _ h=>exact CP (α:=I) h⟩
theorem aT.aCF[Enc α](h:aT y a)(c:∃sz xs,Enc.enc a=.list none sz xs):y.eH=true:=by
 obtain⟨sz,xs,c⟩:=c;exact aA9 h.arg (by rw[h.can,c])
structure Lit where
 neg:Bool
 atom:I
def Lit.enc(x:Lit):AV:=.agg [.bool x.neg,.str x.atom.name,.list none 2 (x.atom.args.map I.enc)]
instance:Enc Lit where
 sz:=3
 enc:=Lit.enc
 arg _:=rfl
 can x:=by
  simp only[Lit.enc,wU,aKD,aKH,AV.can,uZ,aKM];rw[show x.atom.args.map (AV.can∘I.enc)=x.atom.args.map I.enc from aKI λa _=>Enc.can a]
 inj x y h:=by
  simp only[Lit.enc,AV.agg.injEq,List.cons.injEq,AV.str.injEq,AV.bool.injEq,AV.int.injEq,AV.list.injEq,true_and,and_true]at h;obtain⟨aK,h1,ab⟩:=h;have FX:x.neg=y.neg:=aK;have ags:x.atom=y.atom:=by rw[<-x.atom.eta,<-y.atom.eta,h1,(aKN λa b h=>I.FT a b h).1 ab]
  cases x;cases y;simp_all
 cl _:=rfl
 eS x:=x.atom.name.length<=M/\(x.atom.args.length<=M/\∀a∈x.atom.args,a.eS)
 om {γ b off x} h:=by
  have h:=As h;simp only[Lit.enc,AV.cells,aKB,aKE,or_false,forall_eq_or_imp,forall_eq]at h;obtain⟨⟨v0,gI⟩,⟨v1,aj⟩,⟨v2,av⟩⟩:=h;exact⟨ht.sA aj,ht.sA (self:=ht.Ap x.atom.args) av⟩
 lj {g x v} h:=by
  obtain⟨ws,rfl,h1,_⟩:=bn.oP h;have h:=Au h1;simp only[aKB,aKE,or_false,forall_eq_or_imp,forall_eq]at h;obtain⟨⟨v0,gI⟩,⟨v1,aj⟩,⟨v2,av⟩⟩:=h;exact⟨ht.ov aj,ht.ov (self:=ht.Ap x.atom.args) av⟩
instance:Inhabited Lit:=⟨⟨false,default⟩⟩
theorem Lit.b0(x:Lit):x.enc.cells=[.bool x.neg,.str x.atom.name,.list none 2 (x.atom.args.map I.enc)]:=rfl
theorem Lit.fold(x:Lit):AV.agg [.bool x.neg,.str x.atom.name,.list none 2 (x.atom.args.map I.enc)]=x.enc:=rfl
theorem Lit.no(x:Lit):x.enc.a1=x.enc:=rfl
theorem Lit.cK(x:Lit):x.enc.arg=true:=rfl
theorem Lit.on(x:Lit):x.enc.one=false:=rfl
theorem Lit.tQ(x:Lit):x.enc.res=true:=rfl
theorem Lit.eqv(x:Lit):(Enc.enc x:AV)=x.enc:=rfl
theorem Lit.sB(l:List Lit):(Enc.enc l:AV)=.list none 3 (l.map Lit.enc):=rfl
instance aT.aCG(x:Lit):aT x.enc x:=aT.enc x
instance hD.aCG(l:List Lit):hD (l.map Lit.enc) l:=hD.map l
instance aT.aOi{xs:List AV}{l:List Lit}[h:hD xs l]:aT (.list none 3 xs) l:=aT.list h
instance aT.aEu:aT (.aS 3) ([]:List Lit):=aT.aS (α:=Lit)
structure aU where
 head:I
 body:List Lit
def aU.enc(x:aU):AV:=.agg [.str x.head.name,.list none 2 (x.head.args.map I.enc),.list none 3 (x.body.map Lit.enc)]
instance:Enc aU where
 sz:=3
 enc:=aU.enc
 arg _:=rfl
 can x:=by
  simp only[aU.enc,wU,aKD,aKH,AV.can,uZ,aKM];rw[show x.head.args.map (AV.can∘I.enc)=x.head.args.map I.enc from aKI λa _=>Enc.can a,show x.body.map (AV.can∘Lit.enc)=x.body.map Lit.enc from aKI λa _=>Enc.can a]
 inj x y h:=by
  simp only[aU.enc,AV.agg.injEq,List.cons.injEq,AV.str.injEq,AV.bool.injEq,AV.int.injEq,AV.list.injEq,true_and,and_true]at h;obtain⟨aK,h1,ab⟩:=h;have FY:x.head=y.head:=by rw[<-x.head.eta,<-y.head.eta,aK,(aKN λa b h=>I.FT a b h).1 h1]
  have FZ:x.body=y.body:=(aKN (f:=Lit.enc) λa b h=>Enc.inj a b h).1 ab;cases x;cases y;grind
 cl _:=rfl
 eS x:=x.head.name.length<=M/\(x.head.args.length<=M/\∀a∈x.head.args,a.eS)/\(x.body.length<=M/\∀a∈x.body,Enc.eS a)
 om {γ b off x} h:=by
  have h:=As h;simp only[aU.enc,AV.cells,aKB,aKE,or_false,forall_eq_or_imp,forall_eq]at h;obtain⟨⟨v0,gI⟩,⟨v1,aj⟩,⟨v2,av⟩⟩:=h;exact⟨ht.sA gI,ht.sA (self:=ht.Ap x.head.args) aj,(ht.sA (c:=.list none (Enc.sz Lit) (x.body.map Enc.enc)) av)⟩
 lj {g x v} h:=by
  obtain⟨ws,rfl,h1,_⟩:=bn.oP h;have h:=Au h1;simp only[aKB,aKE,or_false,forall_eq_or_imp,forall_eq]at h;obtain⟨⟨v0,gI⟩,⟨v1,aj⟩,⟨v2,av⟩⟩:=h;exact⟨ht.ov gI,ht.ov (self:=ht.Ap x.head.args) aj,(ht.ov (c:=.list none (Enc.sz Lit) (x.body.map Enc.enc)) av)⟩
instance:Inhabited aU:=⟨⟨default,[]⟩⟩
theorem aU.b0(x:aU):x.enc.cells=[.str x.head.name,.list none 2 (x.head.args.map I.enc),.list none 3 (x.body.map Lit.enc)]:=rfl
theorem aU.fold(x:aU):AV.agg [.str x.head.name,.list none 2 (x.head.args.map I.enc),.list none 3 (x.body.map Lit.enc)]=x.enc:=rfl
theorem aU.no(x:aU):x.enc.a1=x.enc:=rfl
theorem aU.cK(x:aU):x.enc.arg=true:=rfl
theorem aU.on(x:aU):x.enc.one=false:=rfl
theorem aU.tQ(x:aU):x.enc.res=true:=rfl
theorem aU.eqv(x:aU):(Enc.enc x:AV)=x.enc:=rfl
theorem aU.sB(l:List aU):(Enc.enc l:AV)=.list none 3 (l.map aU.enc):=rfl
theorem aU.aqx(x:aU):Enc.eS x↔x.head.name.length<=M/\(x.head.args.length<=M/\∀a∈x.head.args,a.eS)/\(x.body.length<=M/\∀a∈x.body,Enc.eS a):=Iff.rfl
instance aT.aCH(x:aU):aT x.enc x:=aT.enc x
instance hD.aCH(l:List aU):hD (l.map aU.enc) l:=hD.map l
instance aT.aOj{xs:List AV}{l:List aU}[h:hD xs l]:aT (.list none 3 xs) l:=aT.list h
instance aT.aEw:aT (.aS 3) ([]:List aU):=aT.aS (α:=aU)
instance aT.aEz{a0:List UInt8}{dL:AV}{dZ:List I}{a2:AV}{en:List Lit}[h1:aT dL dZ][ab:aT a2 en]:aT (.agg [.str a0,dL,a2]) (aU.mk (I.mk a0 dZ) en):=⟨by
 simp only[AV.arg,AV.pure,aKF,aKJ,h1.aCF ⟨_,_,rfl⟩,ab.aCF ⟨_,_,rfl⟩,Bool.and_true];rfl,by
 simp only[wU,aKD,aKH,h1.can,ab.can];simp only[AV.can];rfl⟩
structure aY where
 var:List UInt8
 term:I
def aY.enc(x:aY):AV:=.agg [.str x.var,.str x.term.name,.list none 2 (x.term.args.map I.enc)]
instance:Enc aY where
 sz:=3
 enc:=aY.enc
 arg _:=rfl
 can x:=by
  simp only[aY.enc,wU,aKD,aKH,AV.can,uZ,aKM];rw[show x.term.args.map (AV.can∘I.enc)=x.term.args.map I.enc from aKI λa _=>Enc.can a]
 inj x y h:=by
  simp only[aY.enc,AV.agg.injEq,List.cons.injEq,AV.str.injEq,AV.bool.injEq,AV.int.injEq,AV.list.injEq,true_and,and_true]at h;obtain⟨aK,h1,ab⟩:=h;have agt:x.var=y.var:=aK;have agu:x.term=y.term:=by rw[<-x.term.eta,<-y.term.eta,h1,(aKN λa b h=>I.FT a b h).1 ab]
  cases x;cases y;simp_all
 cl _:=rfl
 eS x:=x.var.length<=M/\x.term.name.length<=M/\(x.term.args.length<=M/\∀a∈x.term.args,a.eS)
 om {γ b off x} h:=by
  have h:=As h;simp only[aY.enc,AV.cells,aKB,aKE,or_false,forall_eq_or_imp,forall_eq]at h;obtain⟨⟨v0,gI⟩,⟨v1,aj⟩,⟨v2,av⟩⟩:=h;exact⟨ht.sA gI,ht.sA aj,ht.sA (self:=ht.Ap x.term.args) av⟩
 lj {g x v} h:=by
  obtain⟨ws,rfl,h1,_⟩:=bn.oP h;have h:=Au h1;simp only[aKB,aKE,or_false,forall_eq_or_imp,forall_eq]at h;obtain⟨⟨v0,gI⟩,⟨v1,aj⟩,⟨v2,av⟩⟩:=h;exact⟨ht.ov gI,ht.ov aj,ht.ov (self:=ht.Ap x.term.args) av⟩
instance:Inhabited aY:=⟨⟨[],default⟩⟩
theorem aY.b0(x:aY):x.enc.cells=[.str x.var,.str x.term.name,.list none 2 (x.term.args.map I.enc)]:=rfl
theorem aY.fold(x:aY):AV.agg [.str x.var,.str x.term.name,.list none 2 (x.term.args.map I.enc)]=x.enc:=rfl
theorem aY.no(x:aY):x.enc.a1=x.enc:=rfl
theorem aY.cK(x:aY):x.enc.arg=true:=rfl
theorem aY.on(x:aY):x.enc.one=false:=rfl
theorem aY.tQ(x:aY):x.enc.res=true:=rfl
theorem aY.eqv(x:aY):(Enc.enc x:AV)=x.enc:=rfl
theorem aY.sB(l:List aY):(Enc.enc l:AV)=.list none 3 (l.map aY.enc):=rfl
instance aT.aCI(x:aY):aT x.enc x:=aT.enc x
instance hD.aCI(l:List aY):hD (l.map aY.enc) l:=hD.map l
instance aT.aOk{xs:List AV}{l:List aY}[h:hD xs l]:aT (.list none 3 xs) l:=aT.list h
instance aT.Qm:aT (.aS 3) ([]:List aY):=aT.aS (α:=aY)
structure bR where
 src:List UInt8
 dst:List UInt8
 neg:Bool
def bR.enc(x:bR):AV:=.agg [.str x.src,.str x.dst,.bool x.neg]
instance:Enc bR where
 sz:=3
 enc:=bR.enc
 arg _:=rfl
 can x:=by
  rfl
 inj x y h:=by
  simp only[bR.enc,AV.agg.injEq,List.cons.injEq,AV.str.injEq,AV.bool.injEq,AV.int.injEq,AV.list.injEq,true_and,and_true]at h;obtain⟨aK,h1,ab⟩:=h;have agv:x.src=y.src:=aK;have agw:x.dst=y.dst:=h1;have FX:x.neg=y.neg:=ab;cases x;simp_all
 cl _:=rfl
 eS x:=x.src.length<=M/\x.dst.length<=M
 om {γ b off x} h:=by
  have h:=As h;simp only[bR.enc,AV.cells,aKB,aKE,or_false,forall_eq_or_imp,forall_eq]at h;obtain⟨⟨v0,gI⟩,⟨v1,aj⟩,⟨v2,av⟩⟩:=h;exact⟨ht.sA gI,ht.sA aj⟩
 lj {g x v} h:=by
  obtain⟨ws,rfl,h1,_⟩:=bn.oP h;have h:=Au h1;simp only[aKB,aKE,or_false,forall_eq_or_imp,forall_eq]at h;obtain⟨⟨v0,gI⟩,⟨v1,aj⟩,⟨v2,av⟩⟩:=h;exact⟨ht.ov gI,ht.ov aj⟩
instance:Inhabited bR:=⟨⟨[],[],false⟩⟩
theorem bR.b0(x:bR):x.enc.cells=[.str x.src,.str x.dst,.bool x.neg]:=rfl
theorem bR.fold(x:bR):AV.agg [.str x.src,.str x.dst,.bool x.neg]=x.enc:=rfl
theorem bR.no(x:bR):x.enc.a1=x.enc:=rfl
theorem bR.cK(x:bR):x.enc.arg=true:=rfl
theorem bR.on(x:bR):x.enc.one=false:=rfl
theorem bR.tQ(x:bR):x.enc.res=true:=rfl
theorem bR.eqv(x:bR):(Enc.enc x:AV)=x.enc:=rfl
theorem bR.sB(l:List bR):(Enc.enc l:AV)=.list none 3 (l.map bR.enc):=rfl
instance aT.aOm(x:bR):aT x.enc x:=aT.enc x
instance hD.aOm(l:List bR):hD (l.map bR.enc) l:=hD.map l
instance aT.aEA{xs:List AV}{l:List bR}[h:hD xs l]:aT (.list none 3 xs) l:=aT.list h
instance aT.aqo{a0:List UInt8}{dL:List UInt8}{a2:Bool} :aT (.agg [.str a0,.str dL,.bool a2]) (bR.mk a0 dL a2):=⟨by
 rfl,by
 rfl⟩
structure e2 where
 name:List UInt8
 level:Int
def e2.enc(x:e2):AV:=.agg [.str x.name,.int .i64 x.level]
instance:Enc e2 where
 sz:=2
 enc:=e2.enc
 arg _:=rfl
 can x:=by
  rfl
 inj x y h:=by
  simp only[e2.enc,AV.agg.injEq,List.cons.injEq,AV.str.injEq,AV.bool.injEq,AV.int.injEq,AV.list.injEq,true_and,and_true]at h;obtain⟨aK,h1⟩:=h;have F0:x.name=y.name:=aK;have agx:x.level=y.level:=h1;cases x;simp_all
 cl _:=rfl
 eS x:=x.name.length<=M
 om {γ b off x} h:=by
  have h:=As h;simp only[e2.enc,AV.cells,aKB,aKE,or_false,forall_eq_or_imp,forall_eq]at h;obtain⟨⟨v0,gI⟩,⟨v1,aj⟩⟩:=h;exact ht.sA gI
 lj {g x v} h:=by
  obtain⟨ws,rfl,h1,_⟩:=bn.oP h;have h:=Au h1;simp only[aKB,aKE,or_false,forall_eq_or_imp,forall_eq]at h;obtain⟨⟨v0,gI⟩,⟨v1,aj⟩⟩:=h;exact ht.ov gI
instance:Inhabited e2:=⟨⟨[],0⟩⟩
theorem e2.b0(x:e2):x.enc.cells=[.str x.name,.int .i64 x.level]:=rfl
theorem e2.fold(x:e2):AV.agg [.str x.name,.int .i64 x.level]=x.enc:=rfl
theorem e2.no(x:e2):x.enc.a1=x.enc:=rfl
theorem e2.cK(x:e2):x.enc.arg=true:=rfl
theorem e2.on(x:e2):x.enc.one=false:=rfl
theorem e2.tQ(x:e2):x.enc.res=true:=rfl
theorem e2.eqv(x:e2):(Enc.enc x:AV)=x.enc:=rfl
theorem e2.sB(l:List e2):(Enc.enc l:AV)=.list none 2 (l.map e2.enc):=rfl
instance hD.aOn(l:List e2):hD (l.map e2.enc) l:=hD.map l
instance aT.aOo{xs:List AV}{l:List e2}[h:hD xs l]:aT (.list none 2 xs) l:=aT.list h
structure gE where
 name:List UInt8
 args:Int
 head:Bool
 body:Bool
def gE.enc(x:gE):AV:=.agg [.str x.name,.int .i64 x.args,.bool x.head,.bool x.body]
instance:Enc gE where
 sz:=4
 enc:=gE.enc
 arg _:=rfl
 can x:=by
  rfl
 inj x y h:=by
  simp only[gE.enc,AV.agg.injEq,List.cons.injEq,AV.str.injEq,AV.bool.injEq,AV.int.injEq,AV.list.injEq,true_and,and_true]at h;obtain⟨aK,h1,ab,an⟩:=h;have F0:x.name=y.name:=aK;have agy:x.args=y.args:=h1;have FY:x.head=y.head:=ab;have FZ:x.body=y.body:=an;cases x;cases y;simp_all
 cl _:=rfl
 eS x:=x.name.length<=M
 om {γ b off x} h:=by
  have h:=As h;simp only[gE.enc,AV.cells,aKB,aKE,or_false,forall_eq_or_imp,forall_eq]at h;obtain⟨⟨v0,gI⟩,⟨v1,aj⟩,⟨v2,av⟩,⟨v3,aQ⟩⟩:=h;exact ht.sA gI
 lj {g x v} h:=by
  obtain⟨ws,rfl,h1,_⟩:=bn.oP h;have h:=Au h1;simp only[aKB,aKE,or_false,forall_eq_or_imp,forall_eq]at h;obtain⟨⟨v0,gI⟩,⟨v1,aj⟩,⟨v2,av⟩,⟨v3,aQ⟩⟩:=h;exact ht.ov gI
instance:Inhabited gE:=⟨⟨[],0,false,false⟩⟩
theorem gE.b0(x:gE):x.enc.cells=[.str x.name,.int .i64 x.args,.bool x.head,.bool x.body]:=rfl
theorem gE.fold(x:gE):AV.agg [.str x.name,.int .i64 x.args,.bool x.head,.bool x.body]=x.enc:=rfl
theorem gE.no(x:gE):x.enc.a1=x.enc:=rfl
theorem gE.cK(x:gE):x.enc.arg=true:=rfl
theorem gE.on(x:gE):x.enc.one=false:=rfl
theorem gE.tQ(x:gE):x.enc.res=true:=rfl
theorem gE.eqv(x:gE):(Enc.enc x:AV)=x.enc:=rfl
theorem gE.sB(l:List gE):(Enc.enc l:AV)=.list none 4 (l.map gE.enc):=rfl
def mZ(P:Program)(gl:cQ)(f:Nat)(vs:List AV)(H:List ay)(K:AV->List ay->Prop)(_:aN K):Prop:=kv P gl f vs H K
def agz(P:Program)(gl:cQ)(v:AV)(vs:List AV)(H:List ay)(K:AV->List ay->Prop)(_:aN K):Prop:=match v with
 |.fn f hb=>kv P gl f (vs++hb.map AV.a1) H K|_=>False
def u3(vs hb:List AV):Option (List AV):=yE vs (nI hb)
  where yE:List AV->Option (List AV)->Option (List AV)
 |[],o=>o|x::r,o=>CQ (some x) (yE r o)
theorem aCK(vs hb:List AV):u3 vs hb=some (vs++hb.map AV.a1):=by
 unfold u3;induction vs with
 |nil=>simp only[u3.yE,Ar,List.nil_append]|cons x r ih=>simp only[u3.yE,ih,CQ,aKG]
section
variable {P:Program}{gl:cQ}{D:bj}{f:Nat}
variable {d:Option Nat}{xs:List aL}{s:au}{K:au->Prop}{t:aN K}
theorem aCL :b4 P gl D s K t (.iu d f xs)=bV (e8 gl s.env xs) (λvs=>bV (nI vs) (λvs=>mZ P gl f vs s.heap (λr H'=>cC (({ s with heap:=H' }:au).fO d r) K ⟨⟩) ⟨⟩) ⟨⟩) ⟨⟩:=by
 rw[Xs];cases e8 gl s.env xs with
 |none=>rfl|some vs =>
  show _=bV (nI vs) _ ⟨⟩;rw[Ar];rfl
theorem aCM :b4 P gl D s K t (.mC d f xs)=bV (e8 gl s.env xs) (λvs=>bV (nI vs) (λvs=>mZ P gl f vs s.heap (λr H'=>(∃n,H'=s.heap++aKQ n .dead)/\cC (({ s with heap:=H' }:au).fO d r) K ⟨⟩) ⟨⟩) ⟨⟩) ⟨⟩:=by
 rw[Xu];cases e8 gl s.env xs with
 |none=>rfl|some vs =>
  show _=bV (nI vs) _ ⟨⟩;rw[Ar];rfl
theorem aCN{x:aL} :b4 P gl D s K t (.lY d x xs)=bV (br gl s.env x) (λv=>bV (e8 gl s.env xs) (λvs=>bV (nI vs) (λvs=>agz P gl v vs s.heap (λr H'=>cC (({ s with heap:=H' }:au).fO d r) K ⟨⟩) ⟨⟩) ⟨⟩) ⟨⟩) ⟨⟩:=by
 rw[Xt];cases br gl s.env x with
 |none=>rfl|some v=>cases e8 gl s.env xs with
  |none=>cases v<;>rfl|some vs =>
   show _=bV (nI vs) _ ⟨⟩;rw[Ar];cases v<;>rfl
def Qn(P:Program)(gl:cQ)(s:au)(d:Option Nat)(f u:Nat)(vs:List AV)(K:au->Prop)(_:aN K):dc->Prop
 |.v (.list (some e) sz ys)=>mZ P gl f (.list (some e) sz ys::vs) s.heap (λr H'=>cC ((⟨s.env.ins u (.v (.list none sz ys)),H'⟩:au).fO d r) K ⟨⟩) ⟨⟩|.v v=>mZ P gl f (v.a1::vs) s.heap (λr H'=>cC (({ s with heap:=H' }:au).fO d r) K ⟨⟩) ⟨⟩|_=>False
section
variable {s:au}{d:Option Nat}{u:Nat}{vs:List AV}{K:au->Prop}{tg:aN K}
theorem aCO(e sz:Nat)(ys:List AV):Qn P gl s d f u vs K tg (.v (.list (some e) sz ys))=mZ P gl f (.list (some e) sz ys::vs) s.heap (λr H'=>cC ((⟨s.env.ins u (.v (.list none sz ys)),H'⟩:au).fO d r) K ⟨⟩) ⟨⟩:=_root_.id rfl
theorem aCP(sz:Nat):Qn P gl s d f u vs K tg (.v (.aS sz))=mZ P gl f (.aS sz::vs) s.heap (λr H'=>cC (({ s with heap:=H' }:au).fO d r) K ⟨⟩) ⟨⟩:=_root_.id rfl
end
theorem aCQ{u:Nat} :b4 P gl D s K t (.lX d f u xs)=bV (Env.get s.env u) (λe=>bV (e8 gl s.env xs) (λvs=>bV (nI vs) (λvs=>Qn P gl s d f u vs K ⟨⟩ e) ⟨⟩) ⟨⟩) ⟨⟩:=by
 rw[Xv];cases Env.get s.env u with
 |none=>rfl|some e=>cases e8 gl s.env xs with
  |none=>rfl|some vs =>
   show _=bV (nI vs) _ ⟨⟩;rw[Ar];rfl
theorem aCR[Decidable p]{A:Prop}(h:p):(if p then A else False)=A:=if_pos h
variable {K:AV->List ay->Prop}{tg:aN K}
theorem aCS{hb:List AV} :agz P gl (.fn f hb) vs H K tg=bV (u3 vs hb) (λvs=>mZ P gl f vs H K ⟨⟩) ⟨⟩:=by
 rw[aCK];rfl
variable {o:Option (List AV)}
theorem aCT :u3.yE [] o=o:=_root_.id rfl
theorem aCU{r:List AV} :u3.yE (x::r) o=CQ (some x) (u3.yE r o):=_root_.id rfl
theorem jL{vs hb:List AV}:u3 vs hb=u3.yE vs (nI hb):=_root_.id rfl
theorem iJ{K':AV->List ay->Prop}(h:kv P gl f vs H K')(hk:∀r H',K' r H'->K r H'):mZ P gl f vs H K tg:=h.mono hk
variable {r:AV}
theorem cA{H':List ay}(h:bB P gl f vs H λr' c=>r'=r/\c=H')(hk:K r H'):mZ P gl f vs H K tg :=
 ⟨h.mono λ_ _ ⟨e,g⟩=>by rw[e,g];exact hk,r,H',hk⟩
theorem agA(c:kR P f=true)(aG:vs.all AV.arg=true)(e:aA P gl f vs r)(hk:K r H):mZ P gl f vs H K tg :=
 cA (bB.asD c aG e) hk
variable {α β pR FV:Type}[Enc α][Enc β][Enc pR][Enc FV]
variable {a:α}
theorem agB[c:aT x a](e:kR P f=true)(g:aA P gl f [enc a] r)(hk:K r H):mZ P gl f [x] H K tg :=
 agA e (by simp only[aKF,c.arg,aKJ,aKK]) (g.args (.cons c.kX .nil)) hk
theorem CV{b:β}[c:aT x a][e:aT y b](g:kR P f=true)(h:aA P gl f [enc a,enc b] r)(hk:K r H):mZ P gl f [x,y] H K tg :=
 agA g (by simp only[aKF,c.arg,e.arg,aKJ,aKK]) (h.args (.cons c.kX (.cons e.kX .nil))) hk
end
theorem aA.aCV{P:Program}{gl:cQ}{f:Nat}{r:AV}(k:bB P gl f xs [] λm _=>bx m r)(ah:xs.all AV.arg=true)(q:r.res=true)(s:cY r):aA P gl f xs r:=by
 intro γ w vs u z C;let g:bD:=⟨γ,λb=>if b<w.heap.size then .outer else .none,λ_=>none⟩
 have j:Rel P gl 0 g (l9 []) tu w :=
  ⟨.nil,rfl,rfl,λt e he=>kE,λid bM D=>by simp[l9]at D,u,λb ae=>by
   by_cases h:b<w.heap.size
   ·exact h
   ·simp[g,h]at ae,z,λid b h=>d6⟩
 have E:∀x∈xs,cY x:=λx F=>E0 (List.all_eq_true.1 ah x F);refine(k.2 g w vs j (C.zX ah g rfl) (λi x v h _=>(E x (List.mem_of_getElem? h)).gG)).mono ?_;rintro e w' ⟨v,O,Q,g',rfl,G,c,J,K,_⟩;have L:∀b,b<w.heap.size->g'.bO b=.outer/\w'.heap[b]?=w.heap[b]?/\∀o,g'.γ b o=γ b o:=λb ae=>c.outer b (by simp[g,ae]);refine⟨v,g'.γ,rfl,c.γ,c.size,λb ae=>(L b ae).2,⟨c.os,c.out⟩,J.fI,?_,s.gG⟩;exact(G _ _ K).EZ q _ rfl
theorem I.ind{p:I->Prop}(h:∀t,(∀u∈t.args,p u)->p t):∀t,p t
 |.mk n l=>h (.mk n l) (go h l)
  where go {p:I->Prop} (h:∀t,(∀u∈t.args,p u)->p t):∀l:List I,∀u∈l,p u
 |[],u,c=>by cases c|t::r,u,c=>by
  rcases aKB.1 c with e|c
  ·rw[e];exact I.ind h t
  ·exact go h r u c
attribute [go_sem ↓ 2000] aCL aCM aCN aCQ
attribute [go_sem 2000] aCR aCO aCP aCS aCT aCU jL
attribute [go_sem 2000] Lit.b0 Lit.fold Lit.no Lit.cK Lit.on Lit.tQ Lit.eqv Lit.sB aU.b0 aU.fold aU.no aU.cK aU.on aU.tQ aU.eqv aU.sB aY.b0 aY.fold aY.no aY.cK aY.on aY.tQ aY.eqv aY.sB bR.b0 bR.fold bR.no bR.cK bR.on bR.tQ bR.eqv bR.sB e2.b0 e2.fold e2.no e2.cK e2.on e2.tQ e2.eqv e2.sB gE.b0 gE.fold gE.no gE.cK gE.on gE.tQ gE.eqv gE.sB
mutual
def cc:I->Nat|.mk _ l=>ja l+1
def ja:List I->Nat|[]=>0|t::r=>max (cc t) (ja r)
end
theorem J8:∀(l:List I)(t:I),ja (l++[t])=max (ja l) (cc t)
 |[],t=>by simp[ja]|u::l,t=>by simp only[aKG,ja,J8 l t];omega
theorem Av:∀{l:List I}{t:I},t∈l->cc t<=ja l
 |u::l,t,h=>by
  simp only[ja];rcases aKB.1 h with rfl|h
  ·omega
  ·have:=Av h;omega
theorem u4(t:I):cc t=ja t.args+1:=by cases t;simp only[cc,I.args]
theorem Qq(l:List I)(i:Nat):ja (l.take i)<=ja l:=by
 induction l generalizing i with
 |nil=>simp|cons t r ih=>cases i with
  |zero=>simp[ja]|succ i=>simp only[List.take_succ_cons,ja];have:=ih i;omega
mutual
def ck:I->List ak|.mk n l=>match l with|[]=>[n]|t::r=>ck t++bF r
def bF:List I->List ak|[]=>[]|t::r=>ck t++bF r
end
theorem nJ(t:I):ck t=if t.args.length=0 then[t.name]else bF t.args:=by
 obtain⟨n,l⟩:=t;cases l<;>simp[ck,I.args,I.name,bF]
theorem yF:∀(l:List I)(t:I),bF (l++[t])=bF l++ck t
 |[],t=>by simp[bF]|u::l,t=>by simp only[aKG,bF,yF l t,List.append_assoc]
theorem CW{l:List I}{i:Nat}(h:i<l.length):(bF (l.take i)).length+(ck l[i]!).length<=(bF l).length:=by
 have c:l=l.take i++(l[i]!::l.drop (i+1)):=by rw[<-fi h,List.take_append_drop]
 have e:∀a b:List I,bF (a++b)=bF a++bF b:=λa b=>by
  induction a with
  |nil=>simp[bF]|cons t r ih=>simp only[aKG,bF,ih,List.append_assoc]
 conv=>rhs;rw[c,e]
 simp only[bF,List.length_append];omega
theorem aDd(l:List I):bF l=l.flatMap ck:=by
 induction l with
 |nil=>simp[bF]|cons t r ih=>simp only[bF,ih,List.flatMap_cons]
def wW(s:ak):List ak->Nat->Int
 |[],_=>-1|t::r,i=>if t=s then i else wW s r (i+1)
def Aw(s:ak)(l:List ak):Int:=wW s l 0
theorem agE(s:ak):∀(l:List ak)(i:Nat),(0<=wW s l i)↔l.contains s=true
 |[],i=>by simp[wW]|t::r,i=>by
  simp only[wW,List.contains_cons];by_cases h:t=s
  ·subst h;simp
  ·rw[if_neg h,agE s r (i+1)];have:(s==t)=false:=by grind
   rw[this,Bool.false_or]
def gL(out:List ak)(s:ak):List ak:=if eg s&&!out.contains s then out++[s]else out
def o5(l:List ak):List ak:=l.foldl gL []
def hE(l:List I):List ak:=o5 (bF l)
theorem aDe(out:List ak)(s:ak):(gL out s).length<=out.length+1:=by unfold gL;split<;>simp
theorem aDf(l:List ak)(s:ak):o5 (l++[s])=gL (o5 l) s:=by simp[o5,List.foldl_append]
theorem aDg(l:List ak):(o5 l).length<=l.length:=by
 have h:∀(l out:List ak),(l.foldl gL out).length<=out.length+l.length:=λl=>by
  induction l with
  |nil=>intro out;simp|cons t r ih=>intro out;simp only[List.foldl_cons,aKO];have:=ih (gL out t);have:=aDe out t;omega
 have:=h l [];simpa[o5]using this
theorem Qr{out:List ak}{s:ak}(c:eg s=true)(e:out.contains s=false):gL out s=out++[s]:=by rw[gL,c,e];rfl
theorem Qs{out:List ak}{s:ak}(c:eg s=false):gL out s=out:=by simp[gL,c]
theorem Qt{out:List ak}{s:ak}(c:out.contains s=true):gL out s=out:=by rw[gL,c,Bool.not_true,Bool.and_false];rfl
theorem Qw(a b:Nat):gg b a = - gg a b:=by unfold gg;split<;>split<;>omega
theorem CY:∀a b:ak,du b a = - du a b
 |[],[]=>rfl|[],_::_=>rfl|_::_,[]=>rfl|x::r,y::t=>by
  simp only[du];by_cases h:x=y
  ·subst h;simp only[if_true];exact CY r t
  ·grind
theorem F2:∀a b c:ak,du a b<0->du b c<0->du a c<0
 |[],[],_,h,_=>by simp[du]at h|[],_::_,[],_,h=>by simp[du]at h|[],_::_,_::_,_,_=>by simp[du]|_::_,[],_,h,_=>by simp[du]at h|_::_,_::_,[],_,h=>by simp[du]at h|x::r,y::t,z::u,h1,e=>by
  simp only[du]at h1 e ⊢;by_cases g:x=y
  ·subst g;simp only[if_true]at h1;by_cases f:x=z
   ·subst f;simp only[if_true]at e ⊢;exact F2 r t u h1 e
   ·rw[if_neg f]at e ⊢;exact e
  ·grind
theorem jb{c:UInt8}(h:eZ c=true):48<=c.toNat/\c.toNat<=57:=by simpa[eZ]using h
theorem aDD{s t:ak}(J:fw s=some n)(K:fw t=some n):s=t:=by
 have key:∀s:ak,fw s=some n->(∃a,s=[a]/\eZ a=true/\n=a.toNat-48)\/(∃a b,s=[a,b]/\eZ a=true/\eZ b=true/\49<=a.toNat/\n=10*(a.toNat-48)+(b.toNat-48)) \/
   (∃a b c,s=[a,b,c]/\eZ a=true/\eZ b=true/\eZ c=true/\49<=a.toNat/\n=10*(10*(a.toNat-48)+(b.toNat-48))+(c.toNat-48)) \/
   (∃a b c d,s=[a,b,c,d]/\eZ a=true/\eZ b=true/\eZ c=true/\eZ d=true/\49<=a.toNat/\n=10*(10*(10*(a.toNat-48)+(b.toNat-48))+(c.toNat-48))+(d.toNat-48)):=by
  intro s h;unfold fw at h;split at h
  ·cases h
  ·rename_i x r;split at h
   ·rename_i L;obtain⟨w,O,hd⟩:=L;simp only[Option.some.injEq]at h;have i:r≠[]->eZ x=true->49<=x.toNat:=λP ah=>by
     have:=jb ah;have Q:x≠48:=λe=>O ⟨e,P⟩;have:x.toNat≠48:=λe=>Q (UInt8.toNat_inj.1 (by rw[e];rfl));omega
    match r,w,hd,h,i with
    |[],_,hd,h,_=>simp at hd;exact .inl ⟨x,rfl,hd,by simpa[ig]using h.symm⟩|[b],_,hd,h,i=>simp at hd;exact .inr (.inl ⟨x,b,rfl,hd.1,hd.2,i be hd.1,by simpa[ig]using h.symm⟩)|[b,c],_,hd,h,i=>simp at hd;exact .inr (.inr (.inl ⟨x,b,c,rfl,hd.1,hd.2.1,hd.2.2,i be hd.1,by simpa[ig]using h.symm⟩))|[b,c,d],_,hd,h,i=>simp at hd;exact .inr (.inr (.inr ⟨x,b,c,d,rfl,hd.1,hd.2.1,hd.2.2.1,hd.2.2.2,i be hd.1,by simpa[ig]using h.symm⟩))|_::_::_::_::_,w,_,_,_=>simp at w
   ·cases h
 have e:∀{a b:UInt8},a.toNat=b.toNat->a=b:=λh=>UInt8.toNat_inj.1 h;rcases key s J with⟨a,rfl,f,z⟩|⟨a,b,rfl,f,k,D,z⟩|⟨a,b,c,rfl,f,k,q,D,z⟩|⟨a,b,c,d,rfl,f,k,q,E,D,z⟩ <;>
 rcases key t K with⟨j,rfl,g,ba⟩|⟨j,o,rfl,g,m,F,ba⟩|⟨j,o,C,rfl,g,m,u,F,ba⟩|⟨j,o,C,R,rfl,g,m,u,G,F,ba⟩ <;>
 first
  |(exfalso;have:=jb f;have:=jb g;(try have:=jb k);(try have:=jb m);(try have:=jb q);(try have:=jb u);(try have:=jb E);(try have:=jb G);omega)|(have:=jb f;have:=jb g;rw[e (a:=a) (b:=j) am])|(have:=jb f;have:=jb g;have:=jb k;have:=jb m;rw[e (a:=a) (b:=j) am,e (a:=b) (b:=o) am])|(have:=jb f;have:=jb g;have:=jb k;have:=jb m;have:=jb q;have:=jb u;rw[e (a:=a) (b:=j) am,e (a:=b) (b:=o) am,e (a:=c) (b:=C) am])|(have:=jb f;have:=jb g;have:=jb k;have:=jb m;have:=jb q;have:=jb u;have:=jb E;have:=jb G;rw[e (a:=a) (b:=j) am,e (a:=b) (b:=o) am,e (a:=c) (b:=C) am,e (a:=d) (b:=R) am])
theorem agL{t:I}(h:jm t=0):t.args=[]/\fw t.name=some (lk t.name):=by
 refine⟨P0 am,?_⟩;unfold jm at h;split at h
 ·omega
 ·split at h
  ·rename_i c;rw[lk];cases e:fw t.name with
   |none=>rw[e]at c;cases c|some n=>rfl
  ·split at h<;>omega
theorem Qx(a b:Nat):gg a b<0↔a<b:=by unfold gg;split<;>(try split)<;>omega
theorem Qy(a b:Nat):gg a b=0↔a=b:=by unfold gg;split<;>(try split)<;>omega
theorem aDE(c d v w e f:Nat)(s l:Int):tM c d v w e f s l<0↔c<d\/c=d/\(c=0/\v<w\/c≠0/\(e<f\/e=f/\(s<0\/s=0/\l<0))):=by
 unfold tM;split
 ·rw[Qx];omega
 ·split
  ·rw[Qx];omega
  ·split
   ·rw[Qx];omega
   ·split<;>omega
theorem agM(c d v w e f:Nat)(s l:Int):tM c d v w e f s l=0↔c=d/\(c=0/\v=w\/c≠0/\e=f/\s=0/\l=0):=by
 unfold tM;split
 ·rw[Qy];omega
 ·split
  ·rw[Qy];omega
  ·split
   ·rw[Qy];omega
   ·split<;>omega
theorem agN:∀l m:List I,(∀t∈l,∀u,b6 u t = - b6 t u)->fh m l = - fh l m
 |[],[],_=>by simp[fh]|[],_::_,_=>by simp[fh]|_::_,[],_=>by simp[fh]|t::r,u::v,h=>by
  simp only[fh];have c:=h t be u;have f:=agN r v λx ah=>h x (by simp[ah]);by_cases e:b6 t u=0
  ·rw[if_pos e,if_pos am];exact f
  ·rw[if_neg e,if_neg am];exact c
theorem F3:∀t u:I,b6 u t = - b6 t u:=I.ind λt ih u=>by
 rw[CM t u,CM u t,agN t.args u.args ih,CY t.name u.name];unfold tM;have c:=Qw (jm t) (jm u);have e:=Qw (lk t.name) (lk u.name);have a3:=Qw t.args.length u.args.length;by_cases f:jm t=jm u
 ·grind
 ·grind
theorem Ka:∀l m:List I,(∀t∈l,∀u,b6 t u=0->t=u)->fh l m=0->l=m
 |[],[],_,_=>rfl|[],_::_,_,h=>by simp[fh]at h|_::_,[],_,h=>by simp[fh]at h|t::r,u::v,c,h=>by
  simp only[fh]at h;by_cases e:b6 t u=0
  ·rw[if_pos e]at h;rw[c t be u e,Ka r v (λx ah=>c x (by simp[ah])) h]
  omega
theorem u5:∀t u:I,b6 t u=0->t=u:=I.ind λt ih u h=>by
 rw[CM,agM]at h;obtain⟨i,c⟩:=h;rw[<-t.eta,<-u.eta];rcases c with⟨c,e⟩|⟨_,e,f,g⟩
 ·have a:=agL c;have b:=agL (t:=u) am;rw[a.1,b.1,aDD a.2 (by rw[e];exact b.2)]
 ·rw[mY.1 f,Ka _ _ ih g]
theorem agO:∀l:List I,(∀t∈l,b6 t t=0)->fh l l=0
 |[],_=>by simp[fh]|t::r,h=>by simp only[fh,h t be,if_true];exact agO r λx ah=>h x (by simp[ah])
theorem CZ:∀t:I,b6 t t=0:=I.ind λt ih=>by
 rw[CM,agM];have:=agO t.args ih;have:du t.name t.name=0:=mY.2 rfl;refine⟨rfl,?_⟩;by_cases h:jm t=0
 ·exact .inl ⟨h,rfl⟩
 ·grind
theorem agP:∀l m k:List I,(∀t∈l,∀u v,b6 t u<0->b6 u v<0->b6 t v<0)->fh l m<0->fh m k<0->fh l k<0
 |[],[],_,_,h,_=>by simp[fh]at h|[],_::_,[],_,_,h=>by simp[fh]at h|[],_::_,_::_,_,_,_=>by simp[fh]|_::_,[],_,_,h,_=>by simp[fh]at h|_::_,_::_,[],_,_,h=>by simp[fh]at h|t::r,u::v,w::x,g,h1,c=>by
  simp only[fh]at h1 c ⊢;by_cases f:b6 t u=0
  ·have:=u5 _ _ f;subst this;rw[if_pos f]at h1;by_cases e:b6 t w=0
   ·rw[if_pos e]at c ⊢;exact agP r v x (λy i=>g y (by simp[i])) h1 c
   ·rw[if_neg e]at c ⊢;exact c
  ·rw[if_neg f]at h1;by_cases e:b6 u w=0
   ·have:=u5 _ _ e;subst this;rw[if_neg f];exact h1
   ·rw[if_neg e]at c;have:=g t be u w h1 c;rw[if_neg am];exact this
theorem F4:∀t u v:I,b6 t u<0->b6 u v<0->b6 t v<0:=I.ind λt ih u v f g=>by
 have cf:=agP t.args u.args v.args ih;have i:fh t.args u.args<0->u.args=v.args->fh t.args v.args<0:=λh e=>e▸h;have j:fh t.args u.args=0->t.args=u.args:=Ka _ _ λx _ y=>u5 x y;have k:fh u.args v.args=0->u.args=v.args:=Ka _ _ λx _ y=>u5 x y;have fN:=F2 t.name u.name v.name;have c:=mY (a:=t.name) (b:=u.name);have en:=mY (a:=u.name) (b:=v.name);have lD:=mY (a:=t.name) (b:=v.name);have m:du t.name u.name=0->du t.name v.name=du u.name v.name:=λh=>by rw[c.1 h]
 have o:du u.name v.name=0->du t.name v.name=du t.name u.name:=λh=>by rw[en.1 h]
 rw[CM,aDE]at f g ⊢;clear j k i c en lD;omega
section
set_option linter.unusedSectionVars false
variable {α:Type}[Inhabited α]
theorem yH(l:List α)(k:Nat):l[k]! = (l[k]?).getD default:=by simp[List.getElem!_eq_getElem?_getD]
def mj(l:List α)(i j:Nat):List α:=(l.set i l[j]!).set j l[i]!
theorem F5(l:List α)(i j:Nat):(mj l i j).length=l.length:=by simp[mj]
variable {l:List α}{i j:Nat}
theorem F6(al:i<l.length)(c:j<l.length)(k:Nat):(mj l i j)[k]! = if k=j then l[i]! else if k=i then l[j]! else l[k]!:=by
 simp only[mj,yH _ k,List.getElem?_set,List.length_set];by_cases e:k=j
 ·subst e;simp[c]
 ·grind
structure ez(l cJ:List α)(a b:Nat):Prop where
 len:cJ.length=l.length
 out:∀k,¬(a<=k/\k<b)->cJ[k]! = l[k]!
 C0:∀k,a<=k->k<b->∃k',a<=k'/\k'<b/\cJ[k]! = l[k']!
 Kb:∀k,a<=k->k<b->∃k',a<=k'/\k'<b/\l[k]! = cJ[k']!
theorem ez.refl(l:List α)(a b:Nat):ez l l a b:=⟨rfl,λ_ _=>rfl,λk c e=>⟨k,c,e,rfl⟩,λk c e=>⟨k,c,e,rfl⟩⟩
variable {m:List α}{a b:Nat}
theorem ez.trans{n:List α}(c:ez l m a b)(e:ez m n a b):ez l n a b:=by
 refine⟨e.len.trans c.len,λk h=>(e.out k h).trans (c.out k h),λk aG ae=>?_,λk aG ae=>?_⟩
 ·obtain⟨f,g,o,q⟩:=e.C0 k aG ae;obtain⟨r,s,u,w⟩:=c.C0 f g o;exact⟨r,s,u,q.trans w⟩
 ·obtain⟨f,g,o,q⟩:=c.Kb k aG ae;obtain⟨r,s,u,w⟩:=e.Kb f g o;exact⟨r,s,u,q.trans w⟩
variable {cN b5:Nat}
theorem ez.mono(h:ez l m a b)(o:cN<=a)(q:b<=b5):ez l m cN b5:=by
 refine⟨h.len,λk hk=>h.out k am,λk aG ae=>?_,λk aG ae=>?_⟩
 ·by_cases hk:a<=k/\k<b
  ·obtain⟨c,f,g,e⟩:=h.C0 k hk.1 hk.2;exact⟨c,am,am,e⟩
  ·exact⟨k,aG,ae,h.out k hk⟩
 ·by_cases hk:a<=k/\k<b
  ·obtain⟨c,f,g,e⟩:=h.Kb k hk.1 hk.2;exact⟨c,am,am,e⟩
  ·exact⟨k,aG,ae,(h.out k hk).symm⟩
theorem ez.mj(e:a<=i)(f:i<b)(g:a<=j)(o:j<b)(s:b<=l.length):ez l (mj l i j) a b:=by
 have c:=F6 (l:=l) (i:=i) (j:=j) am am;refine⟨F5 _ _ _,λk hk=>?_,λk aG ae=>?_,λk aG ae=>?_⟩
 ·rw[c,if_neg am,if_neg am]
 ·rw[c];split
  ·exact⟨i,e,f,rfl⟩
  ·split
   ·exact⟨j,g,o,rfl⟩
   ·exact⟨k,aG,ae,rfl⟩
 ·by_cases q:k=i
  ·exact⟨j,g,o,by rw[c,if_pos rfl,q]⟩
  ·by_cases r:k=j
   ·exact⟨i,e,f,by rw[c];split<;>rename_i h<;>simp_all⟩
   ·exact⟨k,aG,ae,by rw[c,if_neg r,if_neg q]⟩
theorem aDF(c:l.length=m.length)(e:∀k:Nat,l[k]! = m[k]!):l=m:=by
 refine List.ext_getElem c λi a b=>?_;have:=e i;simpa[a,b]using this
structure tS(c:α->α->Int):Prop where
 neg:∀x y,c y x = - c x y
 aDG:∀x y z,c x y<0->c y z<0->c x z<0
 zero:∀x y,c x y=0->x=y
variable {c:α->α->Int}
theorem tS.le(T:tS c){x y z:α}(e:c x y<=0)(f:c y z<=0):c x z<=0:=by
 by_cases g:c x y=0
 ·rw[T.zero _ _ g];exact f
 ·by_cases h:c y z=0
  ·rw[<-T.zero _ _ h];exact e
  ·have:=T.aDG x y z am am;omega
theorem tS.refl(T:tS c)(x:α):c x x=0:=by have:=T.neg x x;omega
variable {c:α->α->Int}
def e3(c:α->α->Int)(l:List α)(a b:Nat):Prop:=∀p q,a<=p->p<q->q<b->c l[p]! l[q]!<=0
theorem e3.congr(h:e3 c l a b)(he:∀k,a<=k->k<b->m[k]! = l[k]!):e3 c m a b:=λp q e g f=>by
 rw[he p e am,he q am f];exact h p q e g f
theorem e3.sub(h:e3 c l a b)(f:a<=cN)(g:b5<=b):e3 c l cN b5:=λp q k e o=>h p q am e am
theorem e3.out{x y:Nat}(h:e3 c l a b)(ax:ez l m x y)(hd:b<=x\/y<=a):e3 c m a b:=h.congr λk e f=>ax.out k am
variable {m:Nat}
theorem e3.join(k:e3 c l a m)(o:e3 c l m b)(h:∀p q,a<=p->p<m->m<=q->q<b->c l[p]! l[q]!<=0):e3 c l a b:=λp q e f g=>by
 by_cases r:q<m
 ·exact k p q e f r
 ·by_cases s:p<m
  ·exact h p q e s am g
  ·exact o p q am f g
def Ins(c:α->α->Int)(l:List α)(a i j:Nat):Prop:=∀p q,a<=p->p<q->q<=i->q≠j->c l[p]! l[q]!<=0
theorem Ins.start(h:e3 c l a i):Ins c l a i i:=λp q e f g k=>h p q e f am
theorem Ins.step(h:Ins c l a i j)(z:a<j)(C:j<=i)(D:i<l.length)(s:c l[j]! l[j-1]!<=0):Ins c (mj l j (j-1)) a i (j-1):=λp q k u g w=>by
 have o:=F6 (l:=l) (i:=j) (j:=j-1) am am;rw[o p,o q,if_neg w];by_cases e:q=j
 ·rw[if_pos e];by_cases f:p=j-1
  ·rw[if_pos f];exact s
  ·rw[if_neg f,if_neg am];exact h p (j-1) k am am am
 ·rw[if_neg e];by_cases f:p=j-1
  ·rw[if_pos f];exact h j q am am g e
  ·rw[if_neg f];by_cases r:p=j
   ·rw[if_pos r];exact h (j-1) q am am g e
   ·rw[if_neg r];exact h p q k u g e
theorem Ins.agQ(h:Ins c l a i a):e3 c l a (i+1):=λp q e f g=>h p q e f am am
theorem Ins.agR(T:tS c)(h:Ins c l a i j)(r:a<j)(s:¬c l[j]! l[j-1]! < 0):e3 c l a (i+1):=λp q f k u=>by
 have g:c l[j-1]! l[j]!<=0:=by have:=T.neg l[j]! l[j-1]!;omega
 by_cases e:q=j
 ·subst e;by_cases o:p=q-1
  ·subst o;exact g
  ·exact T.le (h p (q-1) f am am am) g
 ·exact h p q f k am e
def sD(l:List α)(a b:Nat):Nat->List α
 |0=>l|i+1=>mj (sD l a b i) (a+i) (b+i)
theorem Ay(l:List α)(a b:Nat):∀n,(sD l a b n).length=l.length
 |0=>rfl|n+1=>by rw[sD,F5,Ay l a b n]
theorem Kc(l:List α)(a b:Nat):∀n,a+n<=b->b+n<=l.length->∀k,(sD l a b n)[k]! = if a<=k/\k<a+n then l[b+(k-a)]! else if b<=k/\k<b+n then l[a+(k-b)]! else l[k]!
 |0,_,_,k=>by
  show l[k]! = _
  ((repeat' split)<;>first|rfl|(exfalso;omega)|(congr 1<;>omega))
 |n+1,h1,e,k=>by
  have ih:=Kc l a b n am am;rw[sD,F6 (by rw[Ay];omega) (by rw[Ay];omega),ih k,ih (a+n),ih (b+n)]
  ((repeat' split)<;>first|rfl|(exfalso;omega)|(congr 1<;>omega))
def nK(l:List α)(a m b k:Nat):α:=if a<=k/\k<a+(b-m)then l[m+(k-a)]! else if a+(b-m)<=k/\k<b then l[k-(b-m)]! else l[k]!
def rG(kA l:List α)(a m b i j:Nat):Prop:=∀k,nK kA a m b k=if m-i<=k/\k<m-i+j then l[m+(k-(m-i))]! else if m-i+j<=k/\k<m+j then l[k-j]! else l[k]!
theorem rG.start(e:a<=m)(f:m<=b):rG l l a m b (m-a) (b-m):=λk=>by
 unfold nK;rw[show m-(m-a)=a by omega,show m+(b-m)=b by omega]
variable {kA:List α}
theorem rG.left(h:rG kA l a m b i j)(g:j<i)(o:i<=m)(f:m+j<=l.length):rG kA (sD l (m-i) m j) a m b (i-j) j:=λk=>by
 have e:=Kc l (m-i) m j am f;rw[h k,e k,e (m+(k-(m-(i-j)))),e (k-j)]
 ((repeat' split)<;>first|rfl|(exfalso;omega)|(congr 1<;>omega))
theorem rG.right(h:rG kA l a m b i j)(f:i<j)(g:i<=m)(o:m+j<=l.length):rG kA (sD l (m-i) (m+j-i) i) a m b i (j-i):=λk=>by
 have e:=Kc l (m-i) (m+j-i) i am am;rw[h k,e k,e (m+(k-(m-i))),e (k-(j-i))]
 ((repeat' split)<;>first|rfl|(exfalso;omega)|(congr 1<;>omega))
theorem rG.stop(h:rG kA l a m b i i)(f:i<=m)(e:m+i<=l.length)(k:Nat):(sD l (m-i) m i)[k]! = nK kA a m b k:=by
 rw[h k,Kc l (m-i) m i am e]
 ((repeat' split)<;>first|rfl|(exfalso;omega)|(congr 1<;>omega))
variable {cJ:List α}
theorem aDH(g:a<=m)(o:m<=b)(f:cJ.length=l.length)(h:∀k,cJ[k]! = nK l a m b k):ez l cJ a b:=by
 refine⟨f,λk hk=>?_,λk aG ae=>?_,λk aG ae=>?_⟩
 ·rw[h,nK,if_neg am,if_neg am]
 ·rw[h,nK];split
  ·exact⟨_,am,am,rfl⟩
  ·grind
 ·by_cases e:k<m
  ·refine⟨k+(b-m),am,am,?_⟩;rw[h,nK,if_neg am,if_pos am];congr 1;omega
  ·refine⟨a+(k-m),am,am,?_⟩;rw[h,nK,if_pos am];congr 1;omega
variable {cV:List α}{s mid:Nat}
theorem aDI(T:tS c)(R:a<m)(S:m<b)(V:mid=(a+b) / 2)(C:e3 c l a m)(D:e3 c l m b)
  (W:a<=s)(X:s<=m)(Y:s<=mid)(Z:mid+m<=s+b)
  (cE:s=a\/mid+m=s+b\/¬c l[mid+m-1-(s-1)]! l[s-1]! < 0)(fN:s=m\/s=mid\/c l[mid+m-1-s]! l[s]! < 0)(u:∀k,cV[k]! = nK l s m (mid+m-s) k) :
  e3 c cV a s/\e3 c cV s mid/\e3 c cV mid (mid+m-s)/\e3 c cV (mid+m-s) b/\∀p q,a<=p->p<mid->mid<=q->q<b->c cV[p]! cV[q]!<=0:=by
 have E:∀k,k<s->cV[k]! = l[k]!:=λk h=>by rw[u,nK,if_neg am,if_neg am]
 have F:∀k,s<=k->k<mid->cV[k]! = l[m+(k-s)]!:=λk h O=>by rw[u,nK,if_pos am]
 have w:∀k,mid<=k->k<mid+m-s->cV[k]! = l[k-(mid-s)]!:=λk h O=>by
  rw[u,nK,if_neg am,if_pos am];congr 1;omega
 have G:∀k,mid+m-s<=k->cV[k]! = l[k]!:=λk h=>by rw[u,nK,if_neg am,if_neg am]
 refine⟨λp q g o f=>?_,λp q g o f=>?_,λp q g o f=>?_,λp q g o f=>?_,λp q g o f P=>?_⟩
 ·rw[E p am,E q f];exact C p q g o am
 ·rw[F p g am,F q am f];exact D _ _ am am am
 ·rw[w p g am,w q am f];exact C _ _ am am am
 ·rw[G p g,G q am];exact D p q am o f
 ·have J:∀{p q:Nat},a<=p->p<=q->q<m->c l[p]! l[q]!<=0:=λ{p q}x y z=>by
   by_cases e:p=q
   ·subst e;rw[T.refl];exact aKP 0
   ·exact C p q x am z
  have r:∀{p q:Nat},m<=p->p<=q->q<b->c l[p]! l[q]!<=0:=λ{p q}x y z=>by
   by_cases e:p=q
   ·subst e;rw[T.refl];exact aKP 0
   ·exact D p q x am z
  by_cases Q:p<s
  ·rw[E p Q];by_cases K:q<mid+m-s
   ·rw[w q f K];exact J am am am
   ·rw[G q am];have L:c l[s-1]! l[mid+m-1-(s-1)]!<=0:=by
     rcases cE with h|h|h
     ·omega
     ·omega
     ·have:=T.neg l[s-1]! l[mid+m-1-(s-1)]!;omega
    exact T.le (J am am am) (T.le L (r am am P))
  ·rw[F p am o];by_cases K:q<mid+m-s
   ·rw[w q f K];have L:c l[mid+m-1-s]! l[s]!<=0:=by omega
    exact T.le (r am am am) (T.le L (J am am am))
   ·grind
theorem aDJ{e f:List α}(k:ez cV e a mid)(g:ez e f mid b)(r:e3 c e a mid)(u:e3 c f mid b)
  (w:∀p q,a<=p->p<mid->mid<=q->q<b->c cV[p]! cV[q]!<=0):e3 c f a b:=by
 refine e3.join (r.out g (.inl (aKC _))) u λp q z C D E=>?_;rw[g.out p am];obtain⟨h,F,G,J⟩:=k.C0 p z C;obtain⟨o,K,L,O⟩:=g.C0 q D E;rw[J,O,k.out o am];exact w h o F G K L
def u6(l:List α)(a:Nat):Nat->List α
 |0=>l|i+1=>mj (u6 l a i) (a+i) (a+i+1)
theorem F7(l:List α)(a:Nat):∀n,(u6 l a n).length=l.length
 |0=>rfl|n+1=>by rw[u6,F5,F7 l a n]
theorem agT(l:List α)(a:Nat):∀n,a+n<l.length->∀k,(u6 l a n)[k]! = if a<=k/\k<a+n then l[k+1]! else if k=a+n then l[a]! else l[k]!
 |0,_,k=>by
  show l[k]! = _
  ((repeat' split)<;>first|rfl|(exfalso;omega)|(congr 1<;>omega))
 |n+1,h,k=>by
  have ih:=agT l a n am;rw[u6,F6 (by rw[F7];omega) (by rw[F7];omega),ih k,ih (a+n),ih (a+n+1)]
  ((repeat' split)<;>first|rfl|(exfalso;omega)|(congr 1<;>omega))
theorem agU :∀n,a+n<b->b<=l.length->ez l (u6 l a n) a b
 |0,_,_=>ez.refl _ _ _|n+1,h,e=>(agU n am e).trans (ez.mj am am am am (by rw[F7];exact e))
def u7(l:List α)(m:Nat):Nat->List α
 |0=>l|i+1=>mj (u7 l m i) (m-i) (m-i-1)
theorem F8(l:List α)(m:Nat):∀n,(u7 l m n).length=l.length
 |0=>rfl|n+1=>by rw[u7,F5,F8 l m n]
theorem agV(l:List α)(m:Nat):∀n,n<=m->m<l.length->∀k,(u7 l m n)[k]! = if m-n<k/\k<=m then l[k-1]! else if k=m-n then l[m]! else l[k]!
 |0,_,_,k=>by
  show l[k]! = _
  ((repeat' split)<;>first|rfl|(exfalso;omega)|(congr 1<;>omega))
 |n+1,h,e,k=>by
  have ih:=agV l m n am e;rw[u7,F6 (by rw[F8];omega) (by rw[F8];omega),ih k,ih (m-n),ih (m-n-1)]
  ((repeat' split)<;>first|rfl|(exfalso;omega)|(congr 1<;>omega))
theorem agW :∀n,a+n<=m->m<b->b<=l.length->ez l (u7 l m n) a b
 |0,_,_,_=>ez.refl _ _ _|n+1,h,h1,e=>(agW n am h1 e).trans (ez.mj am am am am (by rw[F8];exact e))
theorem aDL(T:tS c)(r:a+1<=i)(u:i<=b)(w:b<=l.length)(ax:e3 c l (a+1) b)(cE:i=a+1\/c l[i-1]! l[a]! < 0)(fN:i=b\/¬c l[i]! l[a]! < 0)(C:a<b) :
  e3 c (u6 l a (i-1-a)) a b:=λp q D E k=>by
 have f:=agT l a (i-1-a) am;have g:∀{p q:Nat},a+1<=p->p<=q->q<b->c l[p]! l[q]!<=0:=λ{p q}x y z=>by
  by_cases e:p=q
  ·subst e;rw[T.refl];exact aKP 0
  ·exact ax p q x am z
 rw[f p,f q];by_cases F:q<i-1
 ·grind
 ·by_cases o:q=i-1
  ·subst o;rw[if_pos am,if_neg am,if_pos am];rcases cE with h|h
   ·omega
   ·exact T.le (g am (show p+1<=i-1 by omega) am) am
  ·rw[if_neg (c:=a<=q/\q<a+(i-1-a)) am,if_neg (c:=q=a+(i-1-a)) am];by_cases G:p<i-1
   ·grind
   ·by_cases J:p=i-1
    ·rw[if_neg am,if_pos am];rcases fN with h|h
     ·omega
     ·exact T.le (by have:=T.neg l[i]! l[a]!;omega) (g am (show i<=q by omega) k)
    ·grind
theorem aDM(T:tS c)(u:a<=i)(w:i<=m)(k:m<l.length)(ax:e3 c l a m)(cE:i=a\/¬c l[m]! l[i-1]! < 0)(fN:i=m\/c l[m]! l[i]! < 0) :
  e3 c (u7 l m (m-i)) a (m+1):=λp q o C D=>by
 have f:=agV l m (m-i) am k;have g:∀{p q:Nat},a<=p->p<=q->q<m->c l[p]! l[q]!<=0:=λ{p q}x y z=>by
  by_cases e:p=q
  ·subst e;rw[T.refl];exact aKP 0
  ·exact ax p q x am z
 rw[f p,f q];by_cases E:q<i
 ·grind
 ·by_cases r:q=i
  ·subst r;rw[if_neg (c:=m-(m-q)<p/\p<=m) am,if_neg (c:=p=m-(m-q)) am,if_neg am,if_pos am];rcases cE with h|h
   ·omega
   ·exact T.le (g o (show p<=q-1 by omega) am) (by have:=T.neg l[m]! l[q-1]!;omega)
  ·rw[if_pos (c:=m-(m-i)<q/\q<=m) am];by_cases F:p<i
   ·grind
   ·by_cases G:p=i
    ·rw[if_neg am,if_pos am];rcases fN with h|h
     ·omega
     ·exact T.le (show c l[m]! l[i]!<=0 by omega) (g am am am)
    ·grind
def rH(c:α->α->Int)(l:List α)(n s u:Nat):Prop:=∀w p q,u<=w->s*w<=p->p<q->q<s*(w+1)->q<n->c l[p]! l[q]!<=0
def Az(c:α->α->Int)(l:List α)(s u:Nat):Prop:=∀w p q,w<u->s*w<=p->p<q->q<s*(w+1)->c l[p]! l[q]!<=0
variable {u:Nat}
theorem Az.step(h:Az c l s u)(aG:a=s*u)(ae:b=s*(u+1))(ax:ez l cJ a b)(g:e3 c cJ a b):Az c cJ s (u+1):=λw p q r k f o=>by
 by_cases e:w=u
 ·subst e;exact g p q am f am
 ·have:s*(w+1)<=s*u:=aKR _ am;rw[ax.out p am,ax.out q am];exact h w p q am k f o
theorem Az.last(h:Az c l s u)(aG:a=s*u)(r:n<=a+s)(ax:ez l cJ a n)(g:e3 c cJ a n):rH c cJ n s 0:=λw p q z k f o C=>by
 by_cases e:w=u
 ·subst e;exact g p q am f am
 ·by_cases D:w<u
  ·have:s*(w+1)<=s*u:=aKR _ am;rw[ax.out p am,ax.out q am];exact h w p q am k f o
  ·have:s*(u+1)<=s*w:=aKR _ am;rw[aKL]at this;omega
theorem rH.agX(h:rH c l n s (2*u))(aG:a=2*s*u)(g:a+s<=n):e3 c l a (a+s):=λp q k f o=>by
 have e:s*(2*u)=2*s*u:=by rw[<-Nat.mul_assoc,Nat.mul_comm s 2]
 exact h (2*u) p q (aKC _) am f (by rw[aKL];omega) am
theorem rH.agY(h:rH c l n s (2*u))(aG:a=2*s*u)(ae:b<=a+2*s)(g:b<=n):e3 c l (a+s) b:=λp q k f o=>by
 have e:s*(2*u)=2*s*u:=by rw[<-Nat.mul_assoc,Nat.mul_comm s 2]
 exact h (2*u+1) p q am (by rw[aKL];omega) f (by rw[aKL,aKL];omega) am
theorem rH.step(h:rH c l n s (2*u))(aG:a=2*s*u)(ae:b=a+2*s)(ax:ez l cJ a b):rH c cJ n s (2*(u+1)):=λw p q z f g k o=>by
 have r:s*(2*u+2)<=s*w:=aKR _ am;have e:s*(2*u)=2*s*u:=by rw[<-Nat.mul_assoc,Nat.mul_comm s 2]
 rw[aKL]at r;rw[ax.out p am,ax.out q am];exact h w p q am f g k o
theorem rH.full(h:rH c l n s 0)(g:n<=s):e3 c l 0 n:=λp q _ e f=>h 0 p q am am e am f
end
open Enc (enc)
def c3:List I->List AV
 |[]=>[]|t::r=>.str t.name::.list none 2 (t.args.map I.enc)::c3 r
theorem ll:∀l:List I,(c3 l).length=l.length*2
 |[]=>rfl|t::r=>by simp only[c3,aKO,ll r];omega
theorem agZ:∀{l:List I}{i:Nat},i<l.length->((c3 l).drop (i*2)).take 2=[.str l[i]!.name,.list none 2 (l[i]!.args.map I.enc)]
 |[],i,h=>by simp at h|t::r,0,_=>by simp[c3]|t::r,i+1,h=>by
  rw[show(i+1)*2=i*2+2 by omega];simp only[c3,List.drop_succ_cons];rw[agZ f8];simp
theorem ag0:∀{l:List I}{i:Nat}{x:I},i<l.length->setCells (c3 l) (i*2) [.str x.name,.list none 2 (x.args.map I.enc)]=c3 (l.set i x)
 |[],i,x,h=>by simp at h|t::r,0,x,_=>by simp[c3,setCells]|t::r,i+1,x,h=>by
  have:=ag0 (l:=r) (i:=i) (x:=x) f8;rw[show(i+1)*2=i*2+2 by omega];simp only[setCells,c3,List.set_cons_succ]at this ⊢;rw[this]
def gi(e:Nat)(H:List ay)(id:Nat)(l:List I):List ay:=H.set id (.buf e (c3 l))
variable {l:List I}
theorem ag1{e:Nat}(h:id<H.length):(gi e H id l)[id]?=some (.buf e (c3 l)):=by simp[gi,h]
variable {i:Nat}
theorem aDN{e:Nat}(h:i<l.length):wV 2 (i*2) (some (.buf e (c3 l)))=some [.str l[i]!.name,.list none 2 (l[i]!.args.map I.enc)]:=by
 rw[CR,agZ h,ll,if_pos am]
variable {E:Env}
theorem ag2{e:Nat}{x:I}(h:i<l.length) :
  tP E (gi e H id l) id (i*2) [.str x.name,.list none 2 (x.args.map I.enc)] (some (.buf e (c3 l)))=some ⟨E,gi e H id (l.set i x)⟩:=by
 rw[FU,ll,if_pos (by simp only[aKO,List.length_nil];omega),ag0 h];simp[gi]
theorem aDO{e:Nat}{j:Nat}{x y:I}(h:i<l.length) :
  tP E (gi e H id (l.set j y)) id (i*2) [.str x.name,.list none 2 (x.args.map I.enc)] (some (.buf e (c3 (l.set j y))))=some ⟨E,gi e H id ((l.set j y).set i x)⟩ :=
 ag2 (by rw[List.length_set];exact h)
theorem aDP(i j:Nat):((i:Int)+(j:Int)) / 2=(((i+j) / 2:Nat):Int):=by omega
theorem aDQ{n:Int}(h:0<=n/\n<18446744073709551616):IntKind.u64.wrap n=n:=by
 simp only[IntKind.wrap,IntKind.signed,IntKind.bits];simp;omega
theorem aDR(a b:Nat):((a:Int)+(b:Int)).toNat=a+b:=by omega
theorem aDS(a:Nat):((a:Int)+1).toNat=a+1:=by omega
theorem aDT(a:Nat):((a:Int)-1).toNat=a-1:=by omega
attribute [go_sem] aDR aDS aDT
attribute [go_sem 3000] aDN ag2
attribute [go_sem 3100] aDO
attribute [go_sem ↓ 4000] agc agd
attribute [go_sem] ag1 aDQ aDP
section
variable {α:Type}[Inhabited α]{c:α->α->Int}
variable {a b:Nat}
theorem ag3(T:tS c)(al:i<b):∀j(l:List α),a<=j->j<=i->b<=l.length->Ins c l a i j->∃f,ez l f a b/\e3 c f a (i+1)
 |j,l,h1,k,g,h=>by
  by_cases e:a<j
  ·by_cases m:c l[j]! l[j-1]! < 0
   ·obtain⟨f,o,q⟩:=ag3 T al (j-1) (mj l j (j-1)) am am (by rw[F5];exact g) (h.step e k am am);exact⟨f,(ez.mj am am am am g).trans o,q⟩
   ·exact⟨l,ez.refl _ _ _,h.agR T e m⟩
  ·obtain rfl:j=a:=by omega
   exact⟨l,ez.refl _ _ _,h.agQ⟩
 termination_by j=>j
theorem tT(T:tS c)(l:List α)(ae:b<=l.length):∃f,ez l f a b/\e3 c f a b:=by
 have key:∀i,i<=b->a<=i->∃f,ez l f a b/\e3 c f a i:=λi=>by
  induction i with
  |zero=>exact λ_ h=>⟨l,ez.refl _ _ _,λp q g j k=>am⟩|succ i ih =>
   intro g j;by_cases e:a<=i
   ·obtain⟨o,m,r⟩:=ih am e;obtain⟨s,u,w⟩:=ag3 T (show i<b by omega) i o e (aKC _) (by rw[m.len];exact ae) (Ins.start r);exact⟨s,m.trans u,w⟩
   ·exact⟨l,ez.refl _ _ _,λp q g j k=>am⟩
 by_cases h:a<=b
 ·exact key b (aKC _) h
 ·exact⟨l,ez.refl _ _ _,λp q g j k=>am⟩
def u9(l:List α)(a m b:Nat):List α:=(List.range l.length).map (nK l a m b)
theorem QA(l:List α)(a m b:Nat):(u9 l a m b).length=l.length:=by simp[u9]
variable {m:Nat}
theorem QB(l:List α)(o:a<=m)(q:m<=b)(ae:b<=l.length)(k:Nat):(u9 l a m b)[k]! = nK l a m b k:=by
 by_cases h:k<l.length
 ·rw[yH];simp[u9,h]
 ·have e:(u9 l a m b)[k]?=none:=List.getElem?_eq_none (by rw[QA];omega);have f:l[k]?=none:=List.getElem?_eq_none am;have g:¬(a<=k/\k<a+(b-m)):=by omega
  have j:¬(a+(b-m)<=k/\k<b):=by omega
  rw[nK,if_neg g,if_neg j,yH,yH,e,f]
theorem aDU{e l:List α}(f:rG e l a m b i i)(g:i<=m)(h:m+i<=l.length)(aG:a<=m)(hm:m<=b)(ae:b<=e.length)(j:l.length=e.length):sD l (m-i) m i=u9 e a m b :=
 aDF (by rw[Ay,QA,j]) λk=>by rw[f.stop g h k,QB e aG hm ae]
end
theorem tU{P:Program}{gl:cQ}{f e:Nat}{j:List ay}{Q:List I->Prop}{K:AV->List ay->Prop}{tg:aN K}
  (h:bB P gl f vs H λr H'=>r=.bg []/\∃c,H'=gi e j id c/\Q c)(g:∃c,Q c)(hk:∀c,Q c->K (.bg []) (gi e j id c)):mZ P gl f vs H K tg :=
 iJ ⟨h,by obtain⟨c,k⟩:=g;exact⟨_,_,rfl,c,rfl,k⟩⟩ λr H' ⟨m,c,o,q⟩=>by rw[m,o];exact hk c q
theorem pT:tS b6:=⟨F3,F4,u5⟩
def jo(l:List I):Prop:=l.Pairwise λx y=>b6 x y<0
theorem Gb(h:jo l){j:Nat}(e:i<j)(c:j<l.length):b6 l[i]! l[j]! < 0:=by
 have:=List.pairwise_iff_getElem.1 h i j am c e;simpa[show i<l.length by omega,c]using this
theorem QG{t:I}(h:jo l):∀f bc al,al-bc<=f->bc<=al->al<=l.length->(∀k,k<bc->b6 l[k]! t<0)->(∀k,al<=k->k<l.length->¬b6 l[k]! t<0) ->
  bc<=lH l t f bc al/\lH l t f bc al<=al/\(∀k,k<lH l t f bc al->b6 l[k]! t<0)/\(∀k,lH l t f bc al<=k->k<l.length->¬b6 l[k]! t<0)
 |0,bc,al,h1,q,o,g,j=>by
  have:bc=al:=by omega
  subst this;exact⟨aKC _,aKC _,g,j⟩
 |f+1,bc,al,h1,q,o,g,j=>by
  by_cases r:bc<al
  ·have ah:l[(bc+al) / 2]?=some l[(bc+al) / 2]!:=Qk am;rw[JZ l t h1 r ah];split
   ·rename_i c;rw[<-yC l t (f:=f+1) _ _ am,yC l t (f+1) _ _ am,yC l t f _ _ am];have:=QG h f ((bc+al) / 2+1) al am am o (λk hk=>by
     by_cases e:k=(bc+al) / 2
     ·rw[e];exact c
     ·have:=Gb h (show k<(bc+al) / 2 by omega) am;exact F4 _ _ _ this c) j
    exact⟨am,this.2.1,this.2.2⟩
   ·rename_i c;rw[yC l t f _ _ am];have:=QG h f bc ((bc+al) / 2) am am am g (λk hk s=>by
     by_cases e:k=(bc+al) / 2
     ·rw[e];exact c
     ·have:=Gb h (show(bc+al) / 2<k by omega) s;intro m;exact c (F4 _ _ _ this m))
    exact⟨this.1,am,this.2.2⟩
  ·rw[yB l t am];have:bc=al:=by omega
   subst this;exact⟨aKC _,aKC _,g,j⟩
theorem Ke(h:jo l)(t:I):gh l t<=l.length/\(∀k,k<gh l t->b6 l[k]! t<0)/\(∀k,gh l t<=k->k<l.length->¬b6 l[k]! t<0) :=
 (QG (t:=t) h l.length 0 l.length am am (aKC _) (λk hk=>am) (λk c e=>am)).2
theorem aD1{x:I}(h:x∈l.take n):∃k,k<n/\k<l.length/\l[k]! = x:=by
 obtain⟨k,hk,rfl⟩:=List.getElem_of_mem h;simp only[List.length_take]at hk;exact⟨k,am,am,by simp[show k<l.length by omega]⟩
theorem ag9{x:I}(h:x∈l.drop n):∃k,n<=k/\k<l.length/\l[k]! = x:=by
 obtain⟨k,hk,rfl⟩:=List.getElem_of_mem h;simp only[List.length_drop]at hk;exact⟨n+k,am,am,by simp[show n+k<l.length by omega]⟩
theorem aD2(h:jo l)(t:I):jo (j4 l t)/\∀x,x∈j4 l t↔x=t\/x∈l:=by
 obtain⟨G,u,w⟩:=Ke h t;have put:(∀k,gh l t<=k->k<l.length->0<b6 l[k]! t)->jo (l.take (gh l t)++t::l.drop (gh l t))/\∀x,x∈l.take (gh l t)++t::l.drop (gh l t)↔x=t\/x∈l:=λC=>by
  refine⟨?_,λx=>?_⟩
  ·refine List.pairwise_append.2 ⟨h.sublist (List.take_sublist _ _),List.pairwise_cons.2 ⟨λy c=>?_,h.sublist (List.drop_sublist _ _)⟩,λy c z m=>?_⟩
   ·obtain⟨k,f,g,rfl⟩:=ag9 c;have:=C k f g;rw[F3];omega
   ·obtain⟨k,f,g,rfl⟩:=aD1 c;rcases aKB.1 m with rfl|m
    ·exact u k f
    ·obtain⟨j,J,D,rfl⟩:=ag9 m;exact Gb h am D
  ·rw[List.mem_append,aKB];have:x∈l↔x∈l.take (gh l t)\/x∈l.drop (gh l t):=by rw[<-List.mem_append,List.take_append_drop]
   rw[this];exact⟨λh=>by rcases h with h|h|h<;>simp[h],λh=>by rcases h with h|h|h<;>simp[h]⟩
 unfold j4;split
 ·rename_i x ah;obtain⟨q,o⟩:=List.getElem?_eq_some_iff.1 ah;have ae:l[gh l t]! = x:=by simp[q,o]
  split
  ·rename_i r;have:=u5 _ _ r;subst this;exact⟨h,λy=>⟨λc=>.inr c,λc=>by
    rcases c with rfl|c
    ·exact List.mem_of_getElem? ah
    ·exact c⟩⟩
  ·rename_i r;refine put λk f g=>?_;have F:=w _ (aKC _) q;rw[ae]at F;by_cases e:k=gh l t
   ·rw[e,ae];omega
   ·have s:=Gb h (show gh l t<k by omega) g;rw[ae]at s;have K:=F3 t x;have L:=F4 t x l[k]! am s;have O:=F3 t l[k]!;omega
 ·grind
theorem QH:∀(r l:List I),jo l->jo (lI l r)/\∀x,x∈lI l r↔x∈r\/x∈l
 |[],l,h=>⟨h,λx=>by simp[lI]⟩|t::r,l,h=>by
  obtain⟨c,e⟩:=aD2 h t;obtain⟨f,g⟩:=QH r (j4 l t) c;refine⟨f,λx=>?_⟩;show x∈lI (j4 l t) r↔_;rw[g,e,aKB];exact⟨λh=>by rcases h with h|h|h<;>simp[h],λh=>by rcases h with(h|h)|h<;>simp[h]⟩
theorem QI:jo []:=List.Pairwise.nil
theorem aha:∀{l m:List I},jo l->jo m->(∀x,x∈l↔x∈m)->l=m
 |[],[],_,_,_=>rfl|[],y::s,_,_,h=>by have:=(h y).2 be;simp at this|x::r,[],_,_,h=>by have:=(h x).1 be;simp at this|x::r,y::s,h1,k,h=>by
  obtain⟨g,o⟩:=List.pairwise_cons.1 h1;obtain⟨j,en⟩:=List.pairwise_cons.1 k;have e:x=y:=by
   rcases aKB.1 ((h x).1 be)with e|e
   ·exact e
   ·rcases aKB.1 ((h y).2 be)with f|f
    ·exact f.symm
    ·have q:=j x e;have u:=g y f;have:=F3 x y;omega
  subst e;rw[aha o en λz=>⟨λc=>by
   rcases aKB.1 ((h z).1 (by simp[c]))with e|e
   ·subst e;have:=g z c;rw[CZ]at this;omega
   ·exact e,λc=>by
   rcases aKB.1 ((h z).2 (by simp[c]))with e|e
   ·subst e;have:=j z c;rw[CZ]at this;omega
   ·exact e⟩]
def fx(l:List I):List I:=lI [] l
theorem wZ(l:List I):jo (fx l):=(QH l [] QI).1
theorem rI(l:List I)(x:I):x∈fx l↔x∈l:=by
 have:=(QH l [] QI).2 x;simpa[fx]using this
theorem Kf(l:List I):(fx l).length<=l.length:=by have:=P7 l [];simpa[fx]using this
variable {m:List I}
theorem QJ(c:jo m)(e:∀x,x∈m↔x∈l):m=fx l:=aha c (wZ l) λx=>(e x).trans (rI l x).symm
theorem ahb(h:∀x,x∈l↔x∈m):fx l=fx m:=QJ (wZ l) λx=>(rI l x).trans (h x)
def lK(l:List I):Nat->List I
 |0=>[]|i+1=>if i=0\/b6 l[i-1]! l[i]!≠0 then lK l i++[l[i]!]else lK l i
theorem ahc(l:List I):∀i,(lK l i).length<=i
 |0=>by simp[lK]|i+1=>by
  have:=ahc l i;rw[lK];split
  ·simp;omega
  ·omega
theorem ahd(h:e3 b6 l 0 n):∀i,i<=n->jo (lK l i)/\∀x,x∈lK l i↔∃k,k<i/\l[k]! = x
 |0,_=>⟨QI,λx=>by simp[lK]⟩|i+1,al=>by
  obtain⟨g,j⟩:=ahd h i am;rw[lK];split
  ·rename_i f;refine⟨List.pairwise_append.2 ⟨g,List.pairwise_singleton _ _,λy r z o=>?_⟩,λx=>?_⟩
   ·simp only[List.mem_singleton]at o;subst o;obtain⟨k,q,rfl⟩:=(j y).1 r;rcases f with f|f
    ·omega
    ·have c:b6 l[i-1]! l[i]! < 0:=by
      have:=h (i-1) i am am am;omega
     by_cases e:k=i-1
     ·rw[e];exact c
     ·have s:=h k (i-1) am am am;by_cases u:b6 l[k]! l[i-1]! = 0
      ·rw[u5 _ _ u];exact c
      ·exact F4 _ _ _ am c
   ·grind
  ·rename_i f;refine⟨g,λx=>(j x).trans ⟨λ⟨k,q,c⟩=>⟨k,am,c⟩,λ⟨k,q,c⟩=>?_⟩⟩;by_cases e:k=i
   ·subst e;have s:k≠0:=λe=>f (.inl e);have w:b6 l[k-1]! l[k]! = 0:=by grind
    exact⟨k-1,am,by rw[u5 _ _ w];exact c⟩
   ·exact⟨k,am,c⟩
theorem aD4{c:List I}(u:n=l.length)(ax:ez l c 0 n)(h:e3 b6 c 0 n):lK c n=fx l:=by
 obtain⟨j,o⟩:=ahd h n (aKC _);refine QJ j λx=>(o x).trans ⟨λ⟨k,q,r⟩=>?_,λah=>?_⟩
 ·obtain⟨f,s,g,e⟩:=ax.C0 k am q;rw[<-r,e];exact ek am
 ·obtain⟨k,hk,rfl⟩:=List.getElem_of_mem ah;obtain⟨f,s,g,e⟩:=ax.Kb k am am;exact⟨f,g,by rw[<-e];simp[hk]⟩
open Enc (enc)
theorem ahe:∀l:List I,((l.map I.enc).map λv:AV=>v.cells.map AV.a1).flatten=c3 l
 |[]=>rfl|t::r=>by
  simp only[aKD,List.flatten_cons,ahe r,I.b0,c3,AV.a1,aKH,aKG,List.nil_append]
theorem C2:∀l:List I,(c3 l).map AV.a1=c3 l
 |[]=>rfl|t::r=>by simp only[c3,aKD,AV.a1,C2 r]
theorem Gc:∀l:List I,(c3 l).all AV.eH=true
 |[]=>rfl|t::r=>by simp only[c3,aKF,AV.eH,Gc r,aKK]
theorem Gd:∀l:List I,chunk 2 l.length (c3 l)=l.map I.enc
 |[]=>rfl|t::r=>by
  simp[chunk,c3,I.qC,Gd]
def Ge(ne:Bool):AV->Option AV
 |.aS _=>some (.bool (!ne))|.hK _=>some (.bool ne)|.list _ _ xs=>if xs=[]then none else some (.bool ne)|_=>none
theorem aD5(ne:Bool)(z:Nat):Ge ne (.aS z)=some (.bool (!ne)):=_root_.id rfl
theorem aD6(ne:Bool)(z:Nat):Ge ne (.hK z)=some (.bool ne):=_root_.id rfl
theorem aD7(ne:Bool)(o:Option Nat)(z:Nat)(h:l≠[]):Ge ne (.list o z (l.map I.enc))=some (.bool ne):=by
 simp only[Ge,List.map_eq_nil_iff,if_neg h]
section
variable {P:Program}{gl:cQ}{D:bj}
theorem aD8{ne:Bool}{x:aL}{s:au}{K:au->Prop}{t:aN K}:b4 P gl D s K t (.r8 d ne x)=bV (br gl s.env x) (λv=>bV (Ge ne v) (λb=>di s d b K ⟨⟩) ⟨⟩) ⟨⟩:=by
 rw[X9];simp only[aJ];cases br gl s.env x with
 |none=>rfl|some v=>cases v with
  |list o z xs=>cases xs<;>rfl|_=>rfl
def aD9(s:au)(d e sz n id:Nat)(ys:List AV):Option ay->Option au
 |some (.buf cB cs)=>if cB=e/\n*sz<=cs.length/\n+ys.length<=M then
     ({ s with heap:=s.heap.set id .dead++[ay.buf e ((cs.take (n*sz)).map AV.a1++(ys.map λv:AV=>v.cells.map AV.a1).flatten),.dead] }).put d (.bI s.heap.length 0 (n+ys.length) sz)else none
 |_=>none
def aOs(s:au)(d e sz:Nat)(y:Option (Nat×List AV))(K:au->Prop)(_:aN K):AV->Prop
 |.bI id 0 n oM=>match y with
  |some (dW,ys)=>if oM=sz/\dW=sz then cC (aD9 s d e sz n id ys s.heap[id]?) K ⟨⟩else False|none=>False
 |_=>False
end
def pU(l:Env)(H:List ay)(t e sz id n dW:Nat):Option ay->Option au
 |some (.buf cB cs)=>if cB=e/\dW=sz/\n*sz<=cs.length/\((cs.take (n*sz)).map AV.a1).all AV.eH=true/\n<=M then
    some { env:=(N l).ins t (.v (.list (some e) sz (chunk sz n ((cs.take (n*sz)).map AV.a1)))),heap:=H.set id .dead }else none
 |_=>none
def Kg(l:Env)(H:List ay)(t e sz:Nat):Option dc->Option au
 |some (.v (.bI id 0 n dW))=>pU l H t e sz id n dW H[id]?|some (.v _)=>some ⟨N l,H⟩|_=>none
variable {l:Env}
theorem aEa{e:Nat}:BR ⟨N l,H⟩ t e sz=Kg l H t e sz (Env.get l t):=by
 unfold BR Kg;simp only[qx];rfl
theorem aEb(l:Env)(H:List ay)(t e sz id n c:Nat):Kg l H t e sz (some (.v (.bI id 0 n c)))=pU l H t e sz id n c H[id]?:=_root_.id rfl
theorem aEc(l:Env)(H:List ay)(t e sz z:Nat):Kg l H t e sz (some (.v (.aS z)))=some ⟨N l,H⟩:=_root_.id rfl
theorem ahf{e:Nat}(h:m.length=n/\n<=M):pU l H t e 2 id n 2 (some (.buf e (c3 m)))=some ⟨N ((t,.v (.list (some e) 2 (m.map I.enc)))::l),H.set id .dead⟩:=by
 obtain⟨h,c⟩:=h;have f:(c3 m).take (n*2)=c3 m:=List.take_of_length_le (by rw[ll,h];exact aKC _);simp only[pU,f,C2,Gc,ll,h,true_and,aKC,c,if_true];rw[<-h,Gd];simp only[b7,List.foldr_cons]
theorem I.aEd(t:I):t.enc.pure=true:=by rw[t.qC];rfl
attribute [go_sem] I.aEd
attribute [go_sem 3000] ahf
attribute [go_sem ↓ 4000] aD8 aEa
attribute [go_sem] aD5 aD6 aD7 aEb aEc
theorem bn.split{g:bD}(h:bn g (.list none sz []) v):bn g (.aS sz) v\/bn g (.hK sz) v:=by
 generalize ah:([]:List AV)=xs at h;cases h with
 |pure _ _ h=>cases h with
  |kn _ base cap ae =>
   cases base with
   |none=>rw[ae rfl];exact .inl (.pure _ _ (.aS _))|some b=>exact .inr (.pure _ _ (.hK _ _ _))
  |list b off cap _ _ h1 c e=>subst ah;exact .inr (.pure _ _ (.hK _ _ _))
theorem aA.split{P:Program}{gl:cQ}{f:Nat}{r:AV}(g:aA P gl f (.aS sz::xs) r)(h:aA P gl f (.hK sz::xs) r):aA P gl f (.list none sz []::xs) r:=λγ w vs c e j=>by
 cases j with
 |cons _ _ _ _ a b =>
  rcases a.split with a|a
  ·exact g γ w _ c e (.cons _ _ _ _ a b)
  ·exact h γ w _ c e (.cons _ _ _ _ a b)
open Enc (enc)
mutual
def rJ:I->Nat|.mk _ l=>max l.length (kh l)
def kh:List I->Nat|[]=>0|t::r=>max (rJ t) (kh r)
end
theorem yI:∀{l:List I}{t:I},t∈l->rJ t<=kh l
 |u::l,t,h=>by
  simp only[kh];rcases aKB.1 h with rfl|h
  ·omega
  ·have:=yI h;omega
theorem Gf:∀{l:List I}{n:Nat},(∀t∈l,rJ t<=n)->kh l<=n
 |[],n,_=>by simp[kh]|t::r,n,h=>by
  simp only[kh];have:=h t be;have:=Gf (l:=r) (n:=n) λu c=>h u (by simp[c]);omega
theorem Kh(t:I):rJ t=max t.args.length (kh t.args):=by cases t;simp only[rJ,I.args]
def lL(l:List I)(i:Nat):List AV:=c3 (l.take i)++(aKQ (l.length-i) [AV.str [],AV.aS 2]).flatten
theorem QM(l:List I):lL l 0=(aKQ l.length [AV.str [],AV.aS 2]).flatten:=by simp[lL,c3]
theorem QN(l:List I):lL l l.length=c3 l:=by simp[lL]
theorem QO(n:Nat):(aKQ n [AV.str [],AV.aS 2]).flatten.length=n*2:=by simp_all
theorem aEn(l:List I)(h:i<=l.length):(lL l i).length=l.length*2:=by
 rw[lL,List.length_append,ll,QO,List.length_take];omega
theorem QP:∀l m:List I,c3 (l++m)=c3 l++c3 m
 |[],m=>rfl|t::r,m=>by simp only[aKG,c3,QP r m]
theorem aEo(l:List α)(a b x y:α)(r:List α)(h:n=l.length):(((l++a::b::r).set n x).set (n+1) y)=l++x::y::r:=by simp_all
variable {l:List I}
theorem aEp(h:i<l.length):setCells (lL l i) (i*2) [.str l[i]!.name,.list none 2 (l[i]!.args.map I.enc)]=lL l (i+1):=by
 simp only[lL,setCells];rw[show l.length-i=(l.length-(i+1))+1 by omega,List.replicate_succ,List.flatten_cons];simp only[aKG,List.nil_append];rw[aEo (c3 (l.take i)) _ _ _ _ _ (by rw[ll,List.length_take];omega),bL h,QP];simp[c3]
theorem aEq{e:Nat}(h:i<l.length) :
  tP E H id (i*2) [.str l[i]!.name,.list none 2 (l[i]!.args.map I.enc)] (some (.buf e (lL l i)))=some ⟨E,H.set id (.buf e (lL l (i+1)))⟩:=by
 rw[FU,aEn l am,if_pos (by simp only[aKO,List.length_nil];omega),aEp h]
theorem aEr{l:Env}{e:Nat}(h:n=m.length/\n<=M):pU l H t e 2 id n 2 (some (.buf e (lL m n)))=some ⟨N ((t,.v (.list (some e) 2 (m.map I.enc)))::l),H.set id .dead⟩:=by
 obtain⟨rfl,c⟩:=h;rw[QN,ahf ⟨rfl,c⟩]
attribute [go_sem 3000] aEq aEr
def ki(f:I->Int)(m:Int):List I->Int->Int
 |[],n=>n|t::r,n=>if n>m then n else ki f m r (n+f t)
def j6(m:Int):Nat->I->Int
 |0,_=>m+1|d+1,t=>ki (j6 m d) m t.args 1
theorem ahl(m:Int)(d:Nat)(t:I):j6 m (d+1) t=ki (j6 m d) m t.args 1:=rfl
def yJ(m:Int):Nat->Int
 |0=>m+1|d+1=>yJ m d+m
variable {m:Int}
theorem Kk(h:0<=m/\m<=1000):∀d:Nat,m+1<=yJ m d/\yJ m d<=((d:Int)+1)*1000+1
 |0=>by simp only[yJ];omega|d+1=>by have:=Kk h d;simp only[yJ];omega
variable {f:I->Int}
theorem ahm{k:Int}(hk:m+1<=k):∀(l:List I)(n:Int),(∀t∈l,1<=f t/\f t<=k)->1<=n->n<=k+m->1<=ki f m l n/\ki f m l n<=k+m
 |[],n,_,h1,c=>⟨h1,c⟩|t::r,n,e,h1,c=>by
  have:=e t be;rw[ki];split
  ·exact⟨h1,c⟩
  ·exact ahm hk r _ (λu g=>e u (by simp[g])) am am
theorem Kl(h:0<=m/\m<=1000):∀(d:Nat)(t:I),1<=j6 m d t/\j6 m d t<=yJ m d
 |0,t=>by simp only[j6,yJ];omega|d+1,t=>by
  have hk:=(Kk h d).1;exact ahm hk t.args 1 (λu _=>Kl h d u) (aKP _) am
theorem QT :∀(l:List I)(n:Int),(∀t∈l,1<=f t)->0<=n->ki f m l n<=m->n+l.length<=m/\∀t∈l,f t<=m
 |[],n,_,_,h=>by simpa[ki]using h|t::r,n,c,g,h=>by
  have j:=c t be;rw[ki]at h;split at h
  ·omega
  ·have:=QT r (n+f t) (λu e=>c u (by simp[e])) am h;simp only[aKO,aKB,forall_eq_or_imp];exact⟨am,am,this.2⟩
def lM(m:Int)(t:I):Bool:=decide (j6 m m.toNat t<=m)
def qI(m:Int)(l:List I):Bool:=decide ((l.length:Int)<=m)&&l.all (lM m)
variable {n:Int}
theorem ahn(h:i<l.length)(c:¬n>m):ki f m (l.drop i) n=ki f m (l.drop (i+1)) (n+f l[i]!):=by
 rw[fi h,ki,if_neg c]
theorem aho(h:i<l.length)(c:n>m):ki f m (l.drop i) n=n:=by
 rw[fi h,ki,if_pos c]
theorem aEE(h:l.length<=i):ki f m (l.drop i) n=n:=by rw[List.drop_eq_nil_of_le h,ki]
end AM
