/- An abstract machine, and what of the given program it does, part 16. Conditions: none. -/
import Derived.Test.YtclmmldjogkhoaaGreatDoorAm14
set_option linter.unusedSimpArgs false
set_option linter.unusedVariables false
namespace AM
open List renaming mem_cons -> I9,map_cons -> Ja,not_mem_nil -> TH,map_nil -> fM,map_map -> aeZ,all_cons -> ae0,cons_append -> aB5,map_congr_left -> aB8,all_nil -> aB9,length_cons -> aHV,map_inj_right -> aIA,replicate -> aIC
open Nat renaming le_refl -> LW,mul_add -> aHW,mul_le_mul_left -> aID
open Bool renaming and_self -> aHk
open Int renaming le_refl -> aIB
open Go
mutual
def AV.can:AV->AV
 |.aV sz=>.list none sz []|.gZ sz=>.list none sz []|.list _ sz xs=>.list none sz (sK xs)|.agg cs=>.agg (sK cs)|.a8 cs=>.a8 (sK cs)|x=>x
def sK:List AV->List AV
 |[]=>[]|x::r=>x.can::sK r
end
theorem tK(l:List AV):sK l=l.map AV.can:=by
 induction l with
 |nil=>simp only[sK,fM]|cons t r ih=>simp only[sK,Ja,ih]
theorem zb(o:Option Nat)(sz:Nat)(xs:List AV):AV.can (.list o sz xs)=.list none sz (xs.map AV.can):=by simp only[AV.can,tK]
theorem vG(xs:List AV):AV.can (.agg xs)=.agg (xs.map AV.can):=by simp only[AV.can,tK]
theorem aa5(xs:List AV):AV.can (.a8 xs)=.a8 (xs.map AV.can):=by simp only[AV.can,tK]
theorem NJ(sz:Nat):AV.can (.aV sz)=.list none sz []:=by simp only[AV.can]
theorem aa6(x:AV):x.can.cells=x.cells.map AV.can:=by
 cases x<;>simp only[AV.can,AV.cells,tK,Ja,fM]
variable {γ:e4}{x:AV}{v:Value}
theorem aa7(ah:df γ x v):df γ x.can v:=by
 refine df.rec (motive_1:=fun x v _=>df γ x.can v) (motive_2:=fun b off cs _=>e5 γ b off (cs.map AV.can)) (motive_3:=fun b off sz xs _=>eI γ b off sz (xs.map AV.can))
  (motive_4:=fun cs ws _=>fB γ (cs.map AV.can) ws) ?_ ?_ ?_ ?_ ?_ ?_ ?_ ?_ ?_ ?_ ?_ ?_ ?_ ?_ ?_ ?_ ?_ ?_ ?_ ah
 ·exact fun b=>by simp only[AV.can];exact .bool b
 ·exact fun k n=>by simp only[AV.can];exact .int k n
 ·exact fun s az=>by simp only[AV.can];exact .str s az
 ·simp only[AV.can];exact .eP
 ·simp only[AV.can];exact .gw
 ·simp only[AV.can];exact .ki
 ·simp only[AV.can];exact .kj
 ·exact fun sz=>by simp only[AV.can];exact .jD _ _ _ (by simp)
 ·exact fun b off cs h _=>by simp only[AV.can];exact .db b off cs h
 ·exact fun sz base cap h=>by rw[zb];exact .jD sz base cap h
 ·exact fun sz base cap=>by simp only[AV.can];exact .jD _ _ _ (by simp)
 ·exact fun b off cap sz xs a e _ U=>by
   rw[zb];have:=df.list b off cap sz (xs.map AV.can) (by simpa using a) (by simpa using e) U;simpa using this
 ·exact fun cs ws _ h=>by rw[vG];exact .agg _ ws h
 ·exact fun b off=>.nil b off
 ·exact fun b off c cs v a U _ _ d f=>.cons b off _ _ v a U d f
 ·exact fun b off sz=>.nil b off sz
 ·exact fun b off sz x xs a _ _ U d=>.cons b off sz _ _ (by rw[aa6,List.length_map];exact a) (by rw[aa6];exact U) d
 ·exact .nil
 ·exact fun c cs v ws a _ _ U d=>.cons _ _ v ws a U d
theorem auy{g:bo}(ah:bb g x v):bb g x.can v:=by
 refine bb.rec (motive_1:=fun x v _=>bb g x.can v) (motive_2:=fun cs ws _=>cr g (cs.map AV.can) ws) ?_ ?_ ?_ ?_ ?_ ?_ ?_ ?_ ?_ ?_ ?_ ah
 ·exact fun x v ao=>.pure _ v (aa7 ao)
 ·exact fun e sz xs v ao=>.pure _ v (by have:=aa7 ao;rwa[zb]at this ⊢)
 ·exact fun id off b ae=>by simp only[AV.can];exact .ptr id off b ae
 ·exact fun id b ae=>by simp only[AV.can];exact .map id b ae
 ·exact fun sz base=>by simp only[AV.can];exact .lb sz base
 ·exact fun id off n sz b k cap a U i j=>by simp only[AV.can];exact .bs id off n sz b k cap a U i j
 ·exact fun f cs ws h _=>by simp only[AV.can];exact .fn f cs ws h
 ·exact fun cs ws _ a d=>by rw[vG];exact .agg _ ws d a
 ·exact fun cs ws _ d=>by rw[aa5];exact .a8 _ ws d
 ·exact .nil
 ·exact fun c cs v ws _ _ a U=>.cons _ _ v ws a U
theorem auz(x:AV):bQ x x.can:=fun _ _ h=>auy h
variable {y:AV}
theorem NK(h:x.can=y):bQ x y:=h▸auz x
class Enc (α:Type) where
 sz:Nat
 enc:α->AV
 arg:∀a,(enc a).arg=true
 can:∀a,(enc a).can=enc a
 inj:∀a b,enc a=enc b->a=b
 cl:∀a,(enc a).cells.length=sz
 /-- lists and strings are no longer than M -/
 eM:α->Prop
 nv:∀{γ:e4}{b off:Nat}{a:α},e5 γ b off (enc a).cells->eM a
 kx:∀{g:bo}{a:α}{v:Value},bb g (enc a) v->eM a
open Enc (enc)
class aT {α:Type} [Enc α] (x:AV) (a:outParam α):Prop where
 arg:x.arg=true
 can:x.can=enc a
variable {α:Type}{a:α}
theorem aT.uniq[Enc α]{b:α}(c:aT x a)(U:aT x b):a=b:=Enc.inj _ _ (c.can▸U.can)
theorem aT.kB[Enc α](h:aT x a):bQ x (enc a):=NK h.can
instance aT.enc{α:Type}[Enc α](a:α):aT (Enc.enc a) a:=⟨Enc.arg a,Enc.can a⟩
theorem auA(h:x.arg=true):x.aW=x:=by
 cases x with
 |list o sz xs=>cases o with
  |none=>rfl|some e=>simp[AV.arg,AV.pure,AV.eb]at h
 |_=>rfl
theorem Enc.aW[Enc α](a:α):(Enc.enc a).aW=Enc.enc a:=auA (Enc.arg a)
theorem auB(h:x.arg=true):x.res=true:=by
 cases x with
 |a8 vs=>simp[AV.arg,AV.pure,AV.eb]at h|list _ _ _=>rfl|_=>simpa[AV.res]using h
theorem Enc.res[Enc α](a:α):(Enc.enc a).res=true:=auB (Enc.arg a)
theorem Enc.jP[Enc α](a:α):cP (Enc.enc a):=Dl (Enc.arg a)
open Enc (enc)
theorem aa8{b off:Nat}(h:e5 γ b off [x]):∃v,df γ x v:=by
 cases h with
 |cons _ _ _ _ v _ _ h _=>exact⟨v,h⟩
theorem aa9{s:List UInt8}(h:df γ (.str s) v):s.length<=M:=by cases h with|str _ h=>exact h
instance:Enc (List UInt8) where
 sz:=1
 enc s:=.str s
 arg _:=rfl
 can _:=by simp only[AV.can]
 inj _ _ h:=by simpa using h
 cl _:=rfl
 eM s:=s.length<=M
 nv h:=by obtain⟨v,h⟩:=aa8 h;exact aa9 h
 kx h:=h.G1
instance:Enc Bool where
 sz:=1
 enc b:=.bool b
 arg _:=rfl
 can _:=by simp only[AV.can]
 inj _ _ h:=by simpa using h
 cl _:=rfl
 eM _:=True
 nv _:=trivial
 kx _:=trivial
instance:Enc Int where
 sz:=1
 enc n:=.int .i64 n
 arg _:=rfl
 can _:=by simp only[AV.can]
 inj _ _ h:=by simpa using h
 cl _:=rfl
 eM _:=True
 nv _:=trivial
 kx _:=trivial
instance:Enc Nat where
 sz:=1
 enc n:=.int .i64 n
 arg _:=rfl
 can _:=by simp only[AV.can]
 inj _ _ h:=by simp only[AV.int.injEq,true_and]at h;omega
 cl _:=rfl
 eM _:=True
 nv _:=trivial
 kx _:=trivial
theorem aba[Enc α]:∀{l:List α}{b off sz:Nat},eI γ b off sz (l.map Enc.enc)->∀a∈l,Enc.eM a
 |[],_,_,_,_,a,h=>by cases h|x::r,b,off,sz,h,a,aE=>by
  rw[Ja]at h;cases h with
  |cons _ _ _ _ _ h1 U c =>
   rcases I9.1 aE with rfl|aE
   ·exact Enc.nv U
   ·exact aba c a aE
variable {l:List α}{sz:Nat}
theorem Bs[Enc α](h:df γ (.list none sz (l.map Enc.enc)) v):l.length<=M/\∀a∈l,Enc.eM a:=by
 generalize ah:l.map Enc.enc=xs at h;cases h with
 |jD=>simp_all|list _ _ _ _ _ h1 U b =>
  subst ah;exact⟨by simpa using h1,aba b⟩
instance {α:Type}[Enc α]:Enc (List α) where
 sz:=1
 enc l:=.list none (Enc.sz α) (l.map Enc.enc)
 arg _:=rfl
 can l:=by
  rw[zb,aeZ];congr 1
  exact aB8 fun a _=>Enc.can a
 inj a b h:=by
  simp only[AV.list.injEq,true_and]at h;exact aIA (fun x y h=>Enc.inj x y h) |>.1 h
 cl _:=rfl
 eM l:=l.length<=M/\∀a∈l,Enc.eM a
 nv h:=by obtain⟨v,h⟩:=aa8 h;exact Bs h
 kx h:=by
  cases h with
  |pure _ _ h=>exact Bs h
theorem I.eta(t:I):I.mk t.name t.args=t:=by cases t;rfl
theorem I.pR(t:I):t.enc=.agg [.str t.name,.list none 2 (t.args.map I.enc)]:=by rw[t.xd,I.cells,vj]
mutual
theorem I.abb:∀t:I,t.enc.can=t.enc
 |.mk n l=>by simp only[I.enc,AV.can,sK,abc l]
theorem abc:∀l:List I,sK (eA l)=eA l
 |[]=>by simp only[eA,sK]|t::r=>by simp only[eA,sK,I.abb t,abc r]
end
mutual
theorem I.D3:∀t u:I,t.enc=u.enc->t=u
 |.mk n l,.mk m k,h=>by
  simp only[I.enc,AV.agg.injEq,List.cons.injEq,AV.str.injEq,AV.list.injEq,true_and,and_true]at h;rw[h.1,abd l k h.2]
theorem abd:∀l k:List I,eA l=eA k->l=k
 |[],[],_=>rfl|[],_::_,h=>by simp[eA]at h|_::_,[],h=>by simp[eA]at h|t::r,u::v,h=>by
  simp only[eA,List.cons.injEq]at h;rw[I.D3 t u h.1,abd r v h.2]
end
instance:Enc I where
 sz:=2
 enc t:=t.enc
 arg t:=t.arg
 can t:=t.abb
 inj t u h:=I.D3 t u h
 cl t:=by rw[t.ME];rfl
 eM t:=t.eM
 nv {γ b off t} h:=by rw[t.ME]at h;exact t.nv h
 kx h:=I.kx h
theorem cE(t:I):Enc.enc t=t.enc:=rfl
theorem cF(s:List UInt8):Enc.enc s=AV.str s:=rfl
theorem cG(b:Bool):Enc.enc b=AV.bool b:=rfl
theorem cH(n:Int):Enc.enc n=AV.int .i64 n:=rfl
theorem cI(n:Nat):Enc.enc n=AV.int .i64 n:=rfl
theorem cJ(l:List I):Enc.enc l=AV.list none 2 (l.map I.enc):=rfl
theorem cK(l:List (List UInt8)):Enc.enc l=AV.list none 1 (l.map AV.str):=rfl
theorem cL(l:List Int):Enc.enc l=AV.list none 1 (l.map (AV.int .i64)):=rfl
theorem abe(l:List I):jw l=Enc.enc l:=by rw[jw,vj];rfl
theorem I.b8(t:I):t.enc.cells=[.str t.name,.list none 2 (t.args.map I.enc)]:=by rw[t.pR];rfl
theorem I.o4(t:I):t.eM↔t.name.length<=M/\t.args.length<=M/\∀u∈t.args,u.eM:=by
 obtain⟨n,l⟩:=t;have:∀l,rC l↔∀u∈l,u.eM:=fun l=>by
  induction l with
  |nil=>simp[rC]|cons t r ih=>simp[rC,ih]
 simp only[I.eM,I.name,I.args,this]
instance aT.str(s:List UInt8):aT (.str s) s:=aT.enc s
instance aT.bool(b:Bool):aT (.bool b) b:=aT.enc b
instance (priority:=low)aT.int (n:Int):aT (.int .i64 n) n:=aT.enc n
instance aT.aV{α:Type}[Enc α]:aT (.aV (Enc.sz α)) ([]:List α):=⟨rfl,by rw[NJ];rfl⟩
class hV {α:Type} [Enc α] (xs:List AV) (l:outParam (List α)):Prop where
 can:xs.map AV.can=l.map Enc.enc
instance hV.nil{α:Type}[Enc α]:hV (α:=α) [] []:=⟨rfl⟩
instance hV.cons{α:Type}[Enc α]{x:AV}{xs:List AV}{a:α}{l:List α}[h:aT x a][az:hV xs l]:hV (x::xs) (a::l):=⟨by rw[Ja,Ja,h.can,az.can]⟩
instance hV.map{α:Type}[Enc α](l:List α):hV (l.map Enc.enc) l:=⟨by rw[aeZ];exact aB8 fun a _=>Enc.can a⟩
instance hV.take{α:Type}[Enc α]{xs:List AV}{l:List α}{n:Nat}[h1:hV xs l]:hV (xs.take n) (l.take n):=⟨by rw[List.map_take,List.map_take,h1.can]⟩
variable {xs:List AV}
theorem aT.list[Enc α](h:hV xs l):aT (.list none (Enc.sz α) xs) l:=⟨rfl,by rw[zb,h.can];rfl⟩
instance hV.zc(l:List I):hV (l.map I.enc) l:=hV.map l
instance aT.Mb(t:I):aT t.enc t:=aT.enc t
instance aT.aGY{xs:List AV}{l:List I}[h:hV xs l]:aT (.list none 2 xs) l:=aT.list h
instance hV.strs(l:List (List UInt8)):hV (l.map AV.str) l:=hV.map l
instance aT.aGZ{xs:List AV}{l:List (List UInt8)}[h:hV xs l]:aT (.list none 1 xs) l:=aT.list h
instance aT.aG0:aT (.aV 2) ([]:List I):=aT.aV (α:=I)
theorem auC(b:y.arg=true)(U:y.can=.list none sz xs):y.eb=true:=by
 cases y with
 |list o _ _=>cases o with
  |none=>rfl|some e=>simp[AV.arg,AV.pure,AV.eb]at b
 |aV _=>rfl|gZ _=>rfl|agg _=>simp[AV.can]at U|a8 _=>simp[AV.can]at U|_=>simp[AV.can]at U
theorem aG1{gl:cp}{e:Env}{n:Nat}:bg gl e (.t n)=(match Env.get e n with|some (.v x)=>some x|_=>none):=_root_.id rfl
def Bt(a:Option AV)(b:Option (List AV)):Option (List AV):=match a,b with|some v,some vs=>some (v::vs)|_,_=>none
theorem auD(v:AV)(vs:List AV):Bt (some v) (some vs)=some (v::vs):=_root_.id rfl
def zd:Option cW->Bool|some (.b _)=>false|some (.a _ _)=>false|_=>true
theorem auE:zd none=true:=_root_.id rfl
theorem auF(x:AV):zd (some (.v x))=true:=_root_.id rfl
variable {d:Nat}
theorem NL{l:Env} :eH (N l) d=zd (Env.get l d):=by unfold eH;rw[pM];rfl
def HS:Option cW->Bool|some (.a _ _)=>true|_=>false
theorem auG:HS none=false:=_root_.id rfl
theorem abf{l:Env} :gy (N l) d=HS (Env.get l d):=by unfold gy;rw[pM];rfl
section
variable {K:an->Prop}{tg:aM K}
def c7(s:an)(d:Nat)(x:AV)(K:an->Prop)(_:aM K):Prop:=b7 (s.put d x) K ⟨⟩
variable {H:List ax}
theorem auH{l:Env} :c7 ⟨N l,H⟩ d x K tg=iC (zd (Env.get l d)) (fun b=>match b with|true=>K ⟨N ((d,.v x)::l),H⟩|false=>False) ⟨⟩:=by
 unfold c7 an.put;simp only[NL,DH];cases zd (Env.get l d)<;>simp[iC,b7]
def HT(s:an)(d:Nat)(cs:List AV)(K:an->Prop)(_:aM K):Prop:=b7 (s.lh d cs) K ⟨⟩
theorem auI{l:Env}{cs:List AV}:HT ⟨N l,H⟩ d cs K tg=iC (xf l [] d) (fun b=>match b with|true=>False|false=>iC (HS (Env.get l d)) (fun b=>match b with|true=>False|false=>K ⟨N ((d,.b cs)::l),H⟩) ⟨⟩) ⟨⟩:=by
 unfold HT an.lh;simp only[Ut,abf,DH];cases xf l [] d<;>cases HS (Env.get l d)<;>simp[iC,b7]
end
def aG2(n:Nat):Option cW->Option lj
 |some (.b _)=>some (.ee n 0)|some (.a t off)=>some (.ee t off)|some (.v (.ptr id off))=>some (.ao id off)|some (.v (.db cs))=>some (.jf cs)|_=>none
def NM(n off:Nat):Option cW->Option (List AV)|some (.b cs)=>if off+n<=cs.length then some ((cs.drop off).take n)else none|_=>none
theorem auJ(n off:Nat)(cs:List AV):NM n off (some (.b cs))=if off+n<=cs.length then some ((cs.drop off).take n)else none:=_root_.id rfl
variable {H:List ax}{n t off:Nat}
theorem auK{l:Env} :bC ⟨N l,H⟩ n (.ee t off)=NM n off (Env.get l t):=by unfold bC;simp only[pM];unfold NM;rfl
def vH(n off:Nat):Option ax->Option (List AV)
 |some (.cells cs)=>if off+n<=cs.length then some ((cs.drop off).take n)else none|some (.buf _ cs)=>if off+n<=cs.length then some ((cs.drop off).take n)else none|_=>none
theorem auL(n off:Nat)(cs:List AV):vH n off (some (.cells cs))=if off+n<=cs.length then some ((cs.drop off).take n)else none:=_root_.id rfl
theorem Bu(n off e:Nat)(cs:List AV):vH n off (some (.buf e cs))=if off+n<=cs.length then some ((cs.drop off).take n)else none:=_root_.id rfl
variable {id:Nat}
theorem abg{e:Env} :bC ⟨e,H⟩ n (.ao id off)=vH n off H[id]?:=by unfold bC vH;rfl
theorem auM{s:an}{cs:List AV}:bC s n (.jf cs)=if n<=cs.length then some (cs.take n)else none:=_root_.id rfl
def NN(l:Env)(H:List ax)(t off:Nat)(vs:List AV):Option cW->Option an|some (.b cs)=>if off+vs.length<=cs.length then some ⟨N ((t,.b (setCells cs off vs))::l),H⟩else none|_=>none
theorem auN(l:Env)(H:List ax)(t off:Nat)(vs cs:List AV):NN l H t off vs (some (.b cs))=if off+vs.length<=cs.length then some ⟨N ((t,.b (setCells cs off vs))::l),H⟩else none:=_root_.id rfl
variable {vs:List AV}
theorem auO{l:Env} :bz ⟨N l,H⟩ vs (.ee t off)=NN l H t off vs (Env.get l t):=by unfold bz;simp only[pM,DH];unfold NN;rfl
def sL(e:Env)(H:List ax)(id off:Nat)(vs:List AV):Option ax->Option an
 |some (.cells cs)=>if off+vs.length<=cs.length then some ⟨e,H.set id (.cells (setCells cs off vs))⟩else none|some (.buf t cs)=>if off+vs.length<=cs.length then some ⟨e,H.set id (.buf t (setCells cs off vs))⟩else none|_=>none
theorem auP(e:Env)(H:List ax)(id off:Nat)(vs cs:List AV):sL e H id off vs (some (.cells cs))=if off+vs.length<=cs.length then some ⟨e,H.set id (.cells (setCells cs off vs))⟩else none:=_root_.id rfl
theorem D4(e:Env)(H:List ax)(id off t:Nat)(vs cs:List AV):sL e H id off vs (some (.buf t cs))=if off+vs.length<=cs.length then some ⟨e,H.set id (.buf t (setCells cs off vs))⟩else none:=_root_.id rfl
theorem abh{e:Env} :bz ⟨e,H⟩ vs (.ao id off)=sL e H id off vs H[id]?:=by unfold bz sL;rfl
def aG3(w:Bool):Option cW->Option Bool|some (.v (.bool b))=>some (b==w)|some (.v (.a8 []))=>some false|_=>none
def xr(s:an)(d x:Nat)(K:an->Prop)(_:aM K):AV->Prop
 |.list (some e) sz xs=>if d=x then False else c7 s x (.list none sz xs) (fun s=>c7 s d (.list (some e) sz xs) K ⟨⟩) ⟨⟩|v=>c7 s d v.aW K ⟨⟩
section
variable {s:an}{d x:Nat}{K:an->Prop}{tg:aM K}
theorem auQ(e z:Nat)(xs:List AV):xr s d x K tg (.list (some e) z xs)=if d=x then False else c7 s x (.list none z xs) (fun s=>c7 s d (.list (some e) z xs) K ⟨⟩) ⟨⟩:=_root_.id rfl
theorem auR(z:Nat)(xs:List AV):xr s d x K tg (.list none z xs)=c7 s d (.list none z xs) K ⟨⟩:=_root_.id rfl
theorem auS(z:Nat):xr s d x K tg (AV.aV z)=c7 s d (AV.aV z) K ⟨⟩:=_root_.id rfl
theorem auT(i o n z:Nat):xr s d x K tg (AV.bs i o n z)=c7 s d (AV.bs i o n z) K ⟨⟩:=_root_.id rfl
end
def nz(m:Nat)(H:List ax):AV->Option AV
 |.list _ _ xs=>if m=1 then some (.int .i64 xs.length)else none|.str b=>if m=0 then some (.int .i64 b.length)else none|.gw=>if m=2 then some (.int .i64 0)else none|.aV _=>if m=1 then some (.int .i64 0)else none|.gZ _=>if m=1 then some (.int .i64 0)else none|.bs _ _ n _=>if m=1 then some (.int .i64 n)else none|.map id=>if m=2 then(match H[id]? with|some (.map _ es)=>some (.int .i64 es.length)|_=>none)else none|_=>none
theorem abi(o:Option Nat)(z:Nat)(xs:List AV):nz 1 H (.list o z xs)=some (.int .i64 xs.length):=_root_.id rfl
theorem auU(q:List UInt8):nz 0 H (.str q)=some (.int .i64 q.length):=_root_.id rfl
theorem auV(z:Nat):nz 1 H (.aV z)=some (.int .i64 0):=_root_.id rfl
theorem auW(i o n z:Nat):nz 1 H (.bs i o n z)=some (.int .i64 n):=_root_.id rfl
def NO:Option ax->Option AV|some (.map _ es)=>some (.int .i64 es.length)|_=>none
theorem auX(n:Nat)(es:List (AV×AV)):NO (some (.map n es))=some (.int .i64 es.length):=_root_.id rfl
theorem auY(i:Nat):nz 2 H (.map i)=NO H[i]?:=by simp only[nz,NO,if_true]
def Bv(sz:Nat):AV->AV->Option AV
 |.list _ dE xs,.int _ n=>if dE=sz/\0<=n/\n<xs.length then(xs[n.toNat]?).map fun v=>.db v.cells else none|.bs id off m dE,.int _ n=>if dE=sz/\0<=n/\n<m then some (.ptr id (off+n.toNat*sz))else none|_,_=>none
theorem abj(sz:Nat)(o:Option Nat)(z:Nat)(xs:List AV)(k:IntKind)(n:Int):Bv sz (.list o z xs) (.int k n)=if z=sz/\0<=n/\n<xs.length then(xs[n.toNat]?).map fun v=>.db v.cells else none:=_root_.id rfl
theorem auZ(sz i o m z:Nat)(k:IntKind)(n:Int):Bv sz (.bs i o m z) (.int k n)=if z=sz/\0<=n/\n<m then some (.ptr i (o+n.toNat*sz))else none:=_root_.id rfl
def NP:AV->AV->Option AV
 |.str b,.int _ n=>if 0<=n then(b[n.toNat]?).map fun c=>.int .u8 c.toNat else none|_,_=>none
theorem au0(q:List UInt8)(k:IntKind)(n:Int):NP (.str q) (.int k n)=if 0<=n then(q[n.toNat]?).map fun c=>.int .u8 c.toNat else none:=_root_.id rfl
def HU(ag:Bool)(cs:List AV):Option AV:=if ag=true then some (.agg (cs.map AV.aW))else match cs with|[v]=>some v.aW|_=>none
theorem au1(cs:List AV):HU true cs=some (.agg (cs.map AV.aW)):=_root_.id rfl
theorem au2(v:AV):HU false [v]=some v.aW:=_root_.id rfl
def HV(kl:Bool):AV->AV->Option AV
 |.int k a,.int _ b=>some (.int k (if kl=true then max a b else min a b))|_,_=>none
theorem au3(k k':IntKind)(a b:Int):HV true (.int k a) (.int k' b)=some (.int k (max a b)):=_root_.id rfl
theorem au4(k k':IntKind)(a b:Int):HV false (.int k a) (.int k' b)=some (.int k (min a b)):=_root_.id rfl
def abk:AV->Option AV|.bool b=>some (.bool (!b))|_=>none
theorem au5(b:Bool):abk (.bool b)=some (.bool (!b)):=_root_.id rfl
def aG4:AV->Option AV|.int k n=>some (.int k (k.wrap (0-n)))|_=>none
def abl(k:IntKind):AV->Option AV|.int _ n=>some (.int k (k.wrap n))|_=>none
theorem au6(k k':IntKind)(n:Int):abl k (.int k' n)=some (.int k (k.wrap n)):=_root_.id rfl
def NQ(i:Nat):cW->Option AV|.v (.a8 vs)=>(vs[i]?).map AV.aW|_=>none
theorem au7(i:Nat)(vs:List AV):NQ i (.v (.a8 vs))=(vs[i]?).map AV.aW:=_root_.id rfl
def Bw(s:an)(d off:Nat):lj->Option an
 |.ee t o=>if eH s.env d then some { s with env:=s.env.ins d (.a t (o+off)) }else none|.ao id o=>s.put d (.ptr id (o+off))|.jf cs=>if off<=cs.length then s.put d (.db (cs.drop off))else none
section
variable {K:an->Prop}{tg:aM K}{l:Env}{H:List ax}{s:an}{d off:Nat}
theorem au8(t o:Nat):b7 (Bw ⟨N l,H⟩ d off (.ee t o)) K tg=iC (zd (Env.get l d)) (fun b=>match b with|true=>K ⟨N ((d,.a t (o+off))::l),H⟩|false=>False) ⟨⟩:=by
 unfold Bw;simp only[NL,DH];cases zd (Env.get l d)<;>simp[iC,b7]
theorem au9(i o:Nat):b7 (Bw s d off (.ao i o)) K tg=c7 s d (.ptr i (o+off)) K ⟨⟩:=_root_.id rfl
theorem ava(cs:List AV):b7 (Bw s d off (.jf cs)) K tg=if off<=cs.length then c7 s d (.db (cs.drop off)) K ⟨⟩else False:=by
 unfold Bw;by_cases h:off<=cs.length<;>simp[h,c7,b7]
end
def abm(s:an)(d n:Nat):cW->Option an
 |.b _=>if eH s.env d then some { s with env:=s.env.ins d (.a n 0) }else none|.a t off=>if eH s.env d then some { s with env:=s.env.ins d (.a t off) }else none|.v (.ptr id off)=>s.put d (.ptr id off)|.v (.db cs)=>s.put d (.db cs)|_=>none
section
variable {K:an->Prop}{tg:aM K}{l:Env}{H:List ax}{s:an}{d n:Nat}
theorem avb(i o:Nat):b7 (abm s d n (.v (.ptr i o))) K tg=c7 s d (.ptr i o) K ⟨⟩:=_root_.id rfl
end
def Bx(s:an)(d u e sz:Nat):cW->List AV->Nat->Option an
 |.v (.list (some b3) dE xs),ys,nf=>if b3=e/\dE=sz/\nf=sz/\d≠u/\xs.length+ys.length<=M then(s.put u (.list none sz xs)).bind fun s=>s.put d (.list (some e) sz (xs++ys))else none|.v (.aV dE),ys,nf=>if dE=sz/\nf=sz/\d≠u/\ys.length<=M then s.put d (.list (some e) sz ys)else none|_,_,_=>none
section
variable {K:an->Prop}{tg:aM K}{s:an}{d u e sz:Nat}
theorem avc(b c:Nat)(xs ys:List AV)(f:Nat):b7 (Bx s d u e sz (.v (.list (some b) c xs)) ys f) K tg=if b=e/\c=sz/\f=sz/\d≠u/\xs.length+ys.length<=M then c7 s u (.list none sz xs) (fun s=>c7 s d (.list (some e) sz (xs++ys)) K ⟨⟩) ⟨⟩else False:=by
 unfold Bx;by_cases h:b=e/\c=sz/\f=sz/\d≠u/\xs.length+ys.length<=M
 ·simp only[if_pos h,c7,b7];cases s.put u (.list none sz xs)<;>rfl
 ·simp only[if_neg h,b7]
theorem avd(b:Nat)(ys:List AV)(c:Nat):b7 (Bx s d u e sz (.v (.aV b)) ys c) K tg=if b=sz/\c=sz/\d≠u/\ys.length<=M then c7 s d (.list (some e) sz ys) K ⟨⟩else False:=by
 unfold Bx;by_cases h:b=sz/\c=sz/\d≠u/\ys.length<=M
 ·simp only[if_pos h];rfl
 ·simp only[if_neg h,b7]
end
def tL(jg:Nat)(bh ak:Nat->Option Int)(v:AV)(K:AV->Prop)(_:aM K):Prop:=match v with
 |.str b=>bK (bh 0) (fun l=>bK (ak b.length) (fun h=>if jg=0/\0<=l/\l<=h/\h<=b.length then K (.str ((b.take h.toNat).drop l.toNat))else False) ⟨⟩) ⟨⟩|.list _ sz xs=>bK (bh 0) (fun l=>bK (ak xs.length) (fun h=>if jg=sz/\sz≠0/\0<=l/\l<=h/\h<=xs.length then K (.list none sz ((xs.take h.toNat).drop l.toNat))else False) ⟨⟩) ⟨⟩|.aV sz=>bK (bh 0) (fun l=>bK (ak 0) (fun h=>if jg=sz/\sz≠0/\l=0/\h=0 then K (.aV sz)else False) ⟨⟩) ⟨⟩|.bs i o n sz=>bK (bh 0) (fun l=>bK (ak n) (fun h=>if jg=sz/\sz≠0/\0<=l/\l<=h/\h<=n then(if 0<l/\l=h then K (.list none sz [])else K (.bs i (o+l.toNat*sz) (h.toNat-l.toNat) sz))else False) ⟨⟩) ⟨⟩|_=>False
section
variable {jg:Nat}{bh ak:Nat->Option Int}{l h:Int}{K:AV->Prop}{tg:aM K}
theorem ave(b:List UInt8):tL jg bh ak (.str b) K tg=bK (bh 0) (fun l=>bK (ak b.length) (fun h=>if jg=0/\0<=l/\l<=h/\h<=b.length then K (.str ((b.take h.toNat).drop l.toNat))else False) ⟨⟩) ⟨⟩:=_root_.id rfl
theorem avf(o:Option Nat)(sz:Nat)(xs:List AV):tL jg bh ak (.list o sz xs) K tg=bK (bh 0) (fun l=>bK (ak xs.length) (fun h=>if jg=sz/\sz≠0/\0<=l/\l<=h/\h<=xs.length then K (.list none sz ((xs.take h.toNat).drop l.toNat))else False) ⟨⟩) ⟨⟩:=_root_.id rfl
theorem abn(sz:Nat):tL jg bh ak (.aV sz) K tg=bK (bh 0) (fun l=>bK (ak 0) (fun h=>if jg=sz/\sz≠0/\l=0/\h=0 then K (.aV sz)else False) ⟨⟩) ⟨⟩:=_root_.id rfl
theorem abo(i o n sz:Nat):tL jg bh ak (.bs i o n sz) K tg=bK (bh 0) (fun l=>bK (ak n) (fun h=>if jg=sz/\sz≠0/\0<=l/\l<=h/\h<=n then(if 0<l/\l=h then K (.list none sz [])else K (.bs i (o+l.toNat*sz) (h.toNat-l.toNat) sz))else False) ⟨⟩) ⟨⟩:=_root_.id rfl
end
theorem avg(k:IntKind)(a:Int):zZ .shr k a 1=some (.int k (a / 2)):=by cases k<;>simp[zZ,IntKind.bits]
section
variable {P:Program}{gl:cp}{D:bc}{s:an}{K:an->Prop}{t:aM K}
variable {o:Option α}{tg:aM K}
theorem kW{f:α->Option an} :b7 (o.bind f) K tg=bK o (fun v=>b7 (f v) K ⟨⟩) ⟨⟩:=by cases o<;>rfl
theorem HW{β:Type}{f:α->β}{K:β->Prop}{tg:aM K}:bK (o.map f) K tg=bK o (fun v=>K (f v)) ⟨⟩:=by cases o<;>rfl
theorem avh{p:Prop}[Decidable p]{x:Option α}{K:α->Prop}{tg:aM K}(h:p):bK (if p then x else none) K tg=bK x K ⟨⟩:=by simp only[if_pos h]
variable {x:aI}
theorem avi :bV P gl D s K t (.ho d x)=bK (bg gl s.env x) (fun v=>c7 s d v.aW K ⟨⟩) ⟨⟩:=by
 rw[UC];simp only[aH,kW];rfl
theorem avj{x:Nat}:bV P gl D s K t (.pn d x)=bK (bg gl s.env (.t x)) (fun v=>xr s d x K ⟨⟩ v) ⟨⟩:=by
 rw[UD];simp only[aH,bg];cases Env.get s.env x with
 |none=>rfl|some e=>cases e with
  |v y=>cases y with
   |list o sz xs=>cases o with
    |none=>rfl|some e =>
     simp only[xr,bK];by_cases h:d=x
     ·simp only[h,if_true];rfl
     ·simp only[h,if_false,kW,c7];cases s.put x (.list none sz xs)<;>rfl
   |_=>rfl
  |_=>rfl
theorem avk{e:Nat}:bV P gl D s K t (.uv d e sz)=c7 s d (.list (some e) sz []) K ⟨⟩:=_root_.id rfl
def abp(v:AV)(K:Bool->Prop)(_:aM K):Prop:=match v with|.bool b=>iC b K ⟨⟩|_=>False
theorem abq{b:Bool}{K:Bool->Prop}{tg:aM K}:abp (.bool b) K tg=iC b K ⟨⟩:=_root_.id rfl
theorem avl{c a b:aI}:bV P gl D s K t (.pick d c a b)=bK (bg gl s.env c) (fun v=>abp v (fun q=>match q with|true=>bK (bg gl s.env a) (fun v=>c7 s d v.aW K ⟨⟩) ⟨⟩|false=>bK (bg gl s.env b) (fun v=>c7 s d v.aW K ⟨⟩) ⟨⟩) ⟨⟩) ⟨⟩:=by
 rw[UE];simp only[aH];cases bg gl s.env c with
 |none=>rfl|some v=>cases v with
  |bool q=>cases q<;>simp only[kW,ec,abq,Uu,Uv,Bool.false_eq_true,if_true,if_false]<;>rfl|_=>rfl
variable {m:Nat}
theorem avm{op:BinOp}{y:aI}:bV P gl D s K t (.bin d m op x y)=bK (bg gl s.env x) (fun a=>bK (bg gl s.env y) (fun b=>bK (FD m op a b) (fun v=>c7 s d v K ⟨⟩) ⟨⟩) ⟨⟩) ⟨⟩:=by
 rw[UF];simp only[aH];cases bg gl s.env x with
 |none=>rfl|some a=>cases bg gl s.env y with
  |none=>rfl|some b=>simp only[kW];rfl
theorem avn :bV P gl D s K t (.po d x)=bK (bg gl s.env x) (fun a=>bK (abk a) (fun v=>c7 s d v K ⟨⟩) ⟨⟩) ⟨⟩:=by
 rw[UG];simp only[aH];cases bg gl s.env x with
 |none=>rfl|some a=>cases a<;>rfl
theorem avo{k:IntKind} :bV P gl D s K t (.conv d k x)=bK (bg gl s.env x) (fun a=>bK (abl k a) (fun v=>c7 s d v K ⟨⟩) ⟨⟩) ⟨⟩:=by
 rw[UH];simp only[aH];cases bg gl s.env x with
 |none=>rfl|some a=>cases a<;>rfl
theorem avp{x i:Nat}:bV P gl D s K t (.ext d x i)=bK (Env.get s.env x) (fun e=>bK (NQ i e) (fun v=>c7 s d v K ⟨⟩) ⟨⟩) ⟨⟩:=by
 rw[UI];simp only[aH];cases Env.get s.env x with
 |none=>rfl|some e=>cases e with
  |v y=>cases y with
   |a8 vs=>simp only[kW,ec,NQ,HW];rfl|_=>rfl
  |_=>rfl
theorem avq :bV P gl D s K t (.len d m x)=bK (bg gl s.env x) (fun a=>bK (nz m s.heap a) (fun v=>c7 s d v K ⟨⟩) ⟨⟩) ⟨⟩:=by
 rw[UJ];simp only[aH];cases bg gl s.env x with
 |none=>rfl|some a=>cases a with
  |list o z xs=>simp only[nz,ec];split<;>rfl|str q=>simp only[nz,ec];split<;>rfl|gw=>simp only[nz,ec];split<;>rfl|aV z=>simp only[nz,ec];split<;>rfl|gZ z=>simp only[nz,ec];split<;>rfl|bs i o n z=>simp only[nz,ec];split<;>rfl|map i =>
   simp only[nz,ec];split
   ·cases s.heap[i]? with
    |none=>rfl|some bA=>cases bA<;>rfl
   ·rfl
  |_=>rfl
variable {z:List AV}
theorem avr :bV P gl D s K t (.alloc d z)=HT s d z K ⟨⟩:=_root_.id rfl
theorem avs :bV P gl D s K t (.box d x)=bK (bg gl s.env x) (fun v=>if v.cells.all AV.one then HT s d (v.cells.map AV.aW) K ⟨⟩else False) ⟨⟩:=by
 rw[UK];simp only[aH,kW];cases bg gl s.env x with
 |none=>rfl|some v=>simp only[ec];split<;>rfl
theorem avt :bV P gl D s K t (.r5 d x)=bK (bg gl s.env x) (fun v=>if v.cells.all AV.eb then c7 s d (.db v.cells) K ⟨⟩else False) ⟨⟩:=by
 rw[UM];simp only[aH,kW];cases bg gl s.env x with
 |none=>rfl|some v=>simp only[ec];split<;>rfl
theorem avu :bV P gl D s K t (.r4 d x)=bK (bg gl s.env x) (fun v=>if v.cells.all AV.one then c7 { s with heap:=s.heap++[ax.cells (v.cells.map AV.aW)] } d (.ptr s.heap.length 0) K ⟨⟩else False) ⟨⟩:=by
 rw[UL];simp only[aH,kW];cases bg gl s.env x with
 |none=>rfl|some v=>simp only[ec];split<;>rfl
theorem avv :bV P gl D s K t (.ju d z)=c7 { s with heap:=s.heap++[ax.cells z] } d (.ptr s.heap.length 0) K ⟨⟩:=_root_.id rfl
theorem avw{parts:List (Nat×Nat×aI)}:bV P gl D s K t (.build d z parts)=bK (nS gl s.env z parts) (fun cs=>c7 s d (.agg cs) K ⟨⟩) ⟨⟩:=by
 rw[UN];simp only[aH,kW];rfl
variable {xs:List aI}
theorem avx :bV P gl D s K t (.lit d sz xs)=bK (eG gl s.env xs) (fun vs=>if vs.all (fun v=>v.aW.pure&&v.cells.length==sz)&&decide (vs.length<=1000)then c7 s d (.list none sz (vs.map AV.aW)) K ⟨⟩else False) ⟨⟩:=by
 rw[UO];simp only[aH,kW];cases eG gl s.env xs with
 |none=>rfl|some v=>simp only[ec];split<;>rfl
theorem avy{e:Nat} :bV P gl D s K t (.pt d e sz xs)=bK (eG gl s.env xs) (fun vs=>if vs.all (fun v=>v.aW.pure&&v.cells.length==sz)&&decide (vs.length<=1000)then c7 s d (.list (some e) sz (vs.map AV.aW)) K ⟨⟩else False) ⟨⟩:=by
 show b7 (aH gl s (.pt d e sz xs)) K ⟨⟩=_;simp only[aH,kW];cases eG gl s.env xs with
 |none=>rfl|some v=>simp only[ec];split<;>rfl
theorem avz{e:Nat} :bV P gl D s K t (.r6 d e sz xs)=bK (eG gl s.env xs) (fun vs=>if vs.all (fun v=>v.cells.length==sz&&v.cells.all AV.one)&&decide (vs.length<=1000)&&sz != 0 then c7 { s with heap:=s.heap++[ax.buf e (vs.map fun v:AV=>v.cells.map AV.aW).flatten,.dead] } d (.bs s.heap.length 0 vs.length sz) K ⟨⟩else False) ⟨⟩:=by
 rw[Vd];simp only[aH,kW];cases eG gl s.env xs with
 |none=>rfl|some v=>simp only[ec];split<;>rfl
theorem avA :bV P gl D s K t (.e3 d x off)=bK (eo gl s.env x) (fun p=>b7 (Bw s d off p) K ⟨⟩) ⟨⟩:=by
 rw[UP];simp only[aH];cases eo gl s.env x with
 |none=>rfl|some p=>cases p<;>rfl
variable {i:aI}
theorem avB :bV P gl D s K t (.mw d sz x i)=bK (bg gl s.env x) (fun a=>bK (bg gl s.env i) (fun b=>bK (Bv sz a b) (fun v=>c7 s d v K ⟨⟩) ⟨⟩) ⟨⟩) ⟨⟩:=by
 rw[UQ];simp only[aH];cases bg gl s.env x with
 |none=>rfl|some a=>cases bg gl s.env i with
  |none=>cases a<;>rfl|some b=>cases a with
   |list o z xs=>cases b with
    |int k n =>
     simp only[ec,Bv];split
     ·simp only[kW,HW];rfl
     ·rfl
    |_=>rfl
   |bs i o n z=>cases b with
    |int k n =>
     simp only[ec,Bv];split<;>rfl
    |_=>rfl
   |_=>rfl
variable {ag:Bool}
theorem avC :bV P gl D s K t (.ld d x n ag)=bK (eo gl s.env x) (fun p=>bK (bC s n p) (fun cs=>bK (HU ag cs) (fun v=>c7 s d v K ⟨⟩) ⟨⟩) ⟨⟩) ⟨⟩:=by
 rw[US];simp only[aH,kW];cases eo gl s.env x with
 |none=>rfl|some p =>
  simp only[ec];cases bC s n p with
  |none=>rfl|some cs =>
   simp only[ec,HU,Option.bind_some];cases ag with
   |true=>rfl|false=>match cs with
    |[]=>rfl|[_]=>rfl|_::_::_=>rfl
theorem avD{v:aI}:bV P gl D s K t (.st n x v)=bK (eo gl s.env x) (fun p=>bK (bg gl s.env v) (fun v=>if v.cells.length=n/\v.cells.all AV.one then b7 (bz s (v.cells.map AV.aW) p) K ⟨⟩else False) ⟨⟩) ⟨⟩:=by
 rw[UU];simp only[aH,kW];cases eo gl s.env x with
 |none=>rfl|some p =>
  simp only[ec];cases bg gl s.env v with
  |none=>rfl|some v =>
   simp only[ec,Option.bind_some];by_cases h:v.cells.length=n/\v.cells.all AV.one=true
   ·simp only[if_pos h]
   ·simp only[if_neg h];rfl
theorem avE :bV P gl D s K t (.idx d x i)=bK (bg gl s.env x) (fun a=>bK (bg gl s.env i) (fun b=>bK (NP a b) (fun v=>c7 s d v K ⟨⟩) ⟨⟩) ⟨⟩) ⟨⟩:=by
 rw[UX];simp only[aH];cases bg gl s.env x with
 |none=>rfl|some a=>cases bg gl s.env i with
  |none=>cases a<;>rfl|some b=>cases a with
   |str q=>cases b with
    |int k n =>
     simp only[ec,NP];split
     ·simp only[kW,HW];rfl
     ·rfl
    |_=>rfl
   |_=>rfl
theorem avF{bh ak:Option aI}:bV P gl D s K t (.pq d sz x bh ak)=bK (bg gl s.env x) (fun a=>tL sz (fun n=>hC gl s.env n bh) (fun n=>hC gl s.env n ak) a (fun v=>c7 s d v K ⟨⟩) ⟨⟩) ⟨⟩:=by
 rw[UY];simp only[aH];cases bg gl s.env x with
 |none=>rfl|some a=>cases a with
  |str b =>
   simp only[ec,tL];cases hC gl s.env 0 bh with
   |none=>rfl|some l=>cases hC gl s.env b.length ak with
    |none=>rfl|some h =>
     simp only[ec];split<;>rfl
  |list o z xs =>
   simp only[ec,tL];cases hC gl s.env 0 bh with
   |none=>rfl|some l=>cases hC gl s.env xs.length ak with
    |none=>rfl|some h =>
     simp only[ec];split<;>rfl
  |aV z =>
   simp only[ec,tL];cases hC gl s.env 0 bh with
   |none=>rfl|some l=>cases hC gl s.env 0 ak with
    |none=>rfl|some h =>
     simp only[ec];split<;>rfl
  |bs i o n z =>
   simp only[ec,tL];cases hC gl s.env 0 bh with
   |none=>rfl|some l=>cases hC gl s.env n ak with
    |none=>rfl|some h =>
     simp only[ec];split
     ·split<;>rfl
     ·rfl
  |_=>rfl
def abr(s:an)(d u e sz:Nat)(pS:cW)(K:an->Prop)(_:aM K):Option (Nat×List AV)->Prop
 |some (z,ys)=>b7 (Bx s d u e sz pS ys z) K ⟨⟩|none=>False
variable {u:Nat}
theorem avG{e:Nat}{b:cW}{z:Nat}{ys:List AV} :abr s d u e sz b K tg (some (z,ys))=b7 (Bx s d u e sz b ys z) K ⟨⟩:=_root_.id rfl
theorem avH{e:Nat}:bV P gl D s K t (.app d u x e sz)=bK (Env.get s.env u) (fun b=>bK (bg gl s.env x) (fun y=>abr s d u e sz b K ⟨⟩ y.iI) ⟨⟩) ⟨⟩:=by
 rw[U0];simp only[aH];cases Env.get s.env u with
 |none=>rfl|some b =>
  cases bg gl s.env x with
  |none=>cases b with
   |v y=>cases y with
    |list o z xs=>cases o<;>rfl|_=>rfl
   |_=>rfl
  |some y =>
   simp only[Option.bind_some,ec];cases y.iI with
   |none=>cases b with
    |v y=>cases y with
     |list o z xs=>cases o<;>rfl|_=>rfl
    |_=>rfl
   |some q =>
    obtain⟨z,c⟩:=q;cases b with
    |v y=>cases y with
     |list o f xs=>cases o<;>rfl|_=>rfl
    |_=>rfl
theorem avI :bV P gl D s K t (.ha d (.t n))=bK (Env.get s.env n) (fun e=>b7 (abm s d n e) K ⟨⟩) ⟨⟩:=by
 rw[U1];simp only[aH];cases Env.get s.env n with
 |none=>rfl|some e=>cases e with
  |v y=>cases y<;>rfl|_=>rfl
theorem avJ{kl:Bool}{y:aI}:bV P gl D s K t (.mx d kl x y)=bK (bg gl s.env x) (fun a=>bK (bg gl s.env y) (fun b=>bK (HV kl a b) (fun v=>c7 s d v K ⟨⟩) ⟨⟩) ⟨⟩) ⟨⟩:=by
 rw[U5];simp only[aH];cases bg gl s.env x with
 |none=>rfl|some a=>cases bg gl s.env y with
  |none=>cases a<;>rfl|some b=>cases a with
   |int k a=>cases b with
    |int k' b =>
     simp only[ec,HV];have c:(if b>a then b else a)=max a b:=by rw[Int.max_def];split<;>split<;>omega
     have e:(if b<a then b else a)=min a b:=by rw[Int.min_def];split<;>split<;>omega
     rw[c,e];rfl
    |_=>rfl
   |_=>rfl
def pT(m:Nat)(P:Program)(gl:cp)(D:bc)(s:an)(K:an->Prop)(_:aM K)(o:cz)(k:Nat):Prop:=if k=m then bV P gl D s K ⟨⟩ o else False
theorem avK{o:cz} :pT m P gl D s K tg o m=bV P gl D s K ⟨⟩ o:=by simp only[pT,if_true]
theorem avL :bV P gl D s K t (.on m (.e3 d x off))=pT m P gl D s K ⟨⟩ (.e3 d x off) (ew s.env x):=by
 show b7 (if ew s.env x=m then aH gl s (.e3 d x off)else none) K ⟨⟩=_;unfold pT;by_cases h:ew s.env x=m
 ·rw[if_pos h,if_pos h];rfl
 ·rw[if_neg h,if_neg h];rfl
theorem avM :bV P gl D s K t (.on m (.ld d x n ag))=pT m P gl D s K ⟨⟩ (.ld d x n ag) (ew s.env x):=by
 show b7 (if ew s.env x=m then aH gl s (.ld d x n ag)else none) K ⟨⟩=_;unfold pT;by_cases h:ew s.env x=m
 ·rw[if_pos h,if_pos h];rfl
 ·rw[if_neg h,if_neg h];rfl
theorem avN{e:Nat} :bV P gl D s K t (.on m (.iv d x e sz))=pT m P gl D s K ⟨⟩ (.iv d x e sz) (ew s.env x):=by
 show b7 (if ew s.env x=m then aH gl s (.iv d x e sz)else none) K ⟨⟩=_;unfold pT;by_cases h:ew s.env x=m
 ·rw[if_pos h,if_pos h];rfl
 ·rw[if_neg h,if_neg h];rfl
theorem avO{v:aI}:bV P gl D s K t (.on m (.st n x v))=pT m P gl D s K ⟨⟩ (.st n x v) (ew s.env x):=by
 show b7 (if ew s.env x=m then aH gl s (.st n x v)else none) K ⟨⟩=_;unfold pT;by_cases h:ew s.env x=m
 ·rw[if_pos h,if_pos h];rfl
 ·rw[if_neg h,if_neg h];rfl
theorem avP{b:Nat}:bV P gl D s K t (.on m (.hP x b))=pT m P gl D s K ⟨⟩ (.hP x b) (ew s.env x):=by
 show b7 (if ew s.env x=m then aH gl s (.hP x b)else none) K ⟨⟩=_;unfold pT;by_cases h:ew s.env x=m
 ·rw[if_pos h,if_pos h];rfl
 ·rw[if_neg h,if_neg h];rfl
theorem avQ :bV P gl D s K t (.on m (.ha d x))=pT m P gl D s K ⟨⟩ (.ha d x) (ew s.env x):=by
 show b7 (if ew s.env x=m then aH gl s (.ha d x)else none) K ⟨⟩=_;unfold pT;by_cases h:ew s.env x=m
 ·rw[if_pos h,if_pos h];rfl
 ·rw[if_neg h,if_neg h];rfl
end
attribute [go_sem ↓ 2000] avL avM avN avO avP avQ avi avj avk avl avm avn avo avp avq avr avs avt avu avv avw avx avy avz avA avB avC avD avE avF avH avI avJ
attribute [go_sem 2000] auD auE auF NL auG abf auH auI auJ auK auL Bu abg auM auN auO auP D4 abh auQ auR auS auT abi auU auV auW auX auY abj auZ au0 au1 au2 au3 au4 au5 au6 au7 au8 au9 ava avb avc avd ave avf abn abo avg abq kW HW avh avG avK
open Enc (enc)
instance:Inhabited I:=⟨.mk [] []⟩
class bq (D D':bc):Prop where
 h:∀f xs r,D' f xs=some r->D f xs=some r
instance bq.refl(D:bc):bq D D:=⟨fun _ _ _ h=>h⟩
def jV(A B:bc):bc:=fun f xs=>match A f xs with|some r=>some r|none=>B f xs
variable {A B:bc}
theorem bq.nA{D:bc}(h:bq D (jV A B)):bq D A:=⟨fun f xs r b=>h.h f xs r (by simp only[jV,b])⟩
def gC(D:bc)(ks:List Nat):Prop:=∀f xs,ks.contains f=false->D f xs=none
variable {ks:List Nat}
theorem gC.or{b:List Nat}(c:gC A ks)(U:gC B b):gC (jV A B) (b++ks):=fun f xs h=>by
 rw[Uq]at h;simp only[Bool.or_eq_false_iff]at h;simp only[jV,c f xs h.2,U f xs h.1]
abbrev kX:=Nat×(List AV->Option AV)
def fT:List kX->bc
 |[],_,_=>none|(k,F)::r,f,xs=>if f=k then F xs else fT r f xs
theorem nB:∀l:List kX,gC (fT l) (l.map Prod.fst)
 |[],f,xs,_=>rfl|(k,F)::r,f,xs,h=>by
  simp only[Ja,List.contains_cons,Bool.or_eq_false_iff,beq_eq_false_iff_ne]at h;simp only[fT,if_neg h.1,nB r f xs h.2]
theorem mS(hd:gC A ks){f:Nat}(hk:ks.contains f=false) :jV A B f xs=B f xs:=by simp only[jV,hd f xs hk]
section
open Classical
variable {α β o5 D5:Type}[Enc α][Enc β][Enc o5][Enc D5]
noncomputable def fO(F:α->AV):List AV->Option AV
 |[x]=>if h:∃a:α,aT x a then some (F h.choose)else none|_=>none
noncomputable def jo(F:α->β->AV):List AV->Option AV
 |[x,y]=>if h:∃a:α×β,aT x a.1/\aT y a.2 then some (F h.choose.1 h.choose.2)else none|_=>none
noncomputable def rI(F:α->β->o5->AV):List AV->Option AV
 |[x,y,z]=>if h:∃a:α×β×o5,aT x a.1/\aT y a.2.1/\aT z a.2.2 then some (F h.choose.1 h.choose.2.1 h.choose.2.2)else none|_=>none
variable {a:α}
theorem NR{F:α->AV}(h:aT x a):fO F [x]=some (F a):=by
 have ah:∃a:α,aT x a:=⟨a,h⟩;simp only[fO,dif_pos ah,ah.choose_spec.uniq h]
variable {b:β}
theorem abt{F:α->β->AV}(c:aT x a)(U:aT y b):jo F [x,y]=some (F a b):=by
 have ah:∃a:α×β,aT x a.1/\aT y a.2:=⟨(a,b),c,U⟩;simp only[jo,dif_pos ah,ah.choose_spec.1.uniq c,ah.choose_spec.2.uniq U]
theorem NS{F:α->β->o5->AV}{z:AV}{c:o5}(e:aT x a)(U:aT y b)(f:aT z c):rI F [x,y,z]=some (F a b c):=by
 have ah:∃a:α×β×o5,aT x a.1/\aT y a.2.1/\aT z a.2.2:=⟨(a,b,c),e,U,f⟩;simp only[rI,dif_pos ah,ah.choose_spec.1.uniq e,ah.choose_spec.2.1.uniq U,ah.choose_spec.2.2.uniq f]
end
def mT:List AV->Option (List AV)
 |[]=>some []|x::r=>Bt (some x.aW) (mT r)
theorem avR:mT []=some []:=id rfl
theorem abu(x:AV)(r:List AV):mT (x::r)=Bt (some x.aW) (mT r):=id rfl
theorem ze:∀l:List AV,mT l=some (l.map AV.aW)
 |[]=>rfl|x::r=>by rw[abu,ze r];rfl
def bT(P:Program)(gl:cp)(D:bc)(f:Nat)(vs:List AV)(K:AV->Prop)(_:aM K):Prop :=
 vs.all AV.arg=true/\bK (D f vs) (fun r=>aF P gl f vs r/\K r) ⟨⟩
section
variable {P:Program}{gl:cp}{D D':bc}{f:Nat}{K:AV->Prop}{tg:aM K}
theorem avS{d:Option Nat}{xs:List aI}{s:an}{K:an->Prop}{t:aM K}:bV P gl D s K t (.ev d f xs)=bK (eG gl s.env xs) (fun vs=>bK (mT vs) (fun vs=>bT P gl D f vs (fun r=>b7 (s.fr d r) K ⟨⟩) ⟨⟩) ⟨⟩) ⟨⟩:=by
 rw[Uw];cases eG gl s.env xs with
 |none=>rfl|some vs =>
  show _=bK (mT vs) _ ⟨⟩;rw[ze];rfl
variable {r:AV}
theorem tM(aE:vs.all AV.arg=true)(hd:D f vs=some r)(b:aF P gl f vs r):bT P gl D f vs K tg=K r:=by
 simp only[bT,aE,hd,ec,b,true_and]
theorem avT(hd:D' f []=some r)(b:aF P gl f [] r)[hk:bq D D']:bT P gl D f [] K tg=K r :=
 tM rfl (hk.h _ _ _ hd) b
variable {α β o5 D5:Type}[Enc α][Enc β][Enc o5][Enc D5]
variable {a:α}
theorem gN{F:α->AV}[b:aT x a](hd:∀xs,D' f xs=fO F xs)(c:aF P gl f [enc a] (F a))[hk:bq D D']:bT P gl D f [x] K tg=K (F a) :=
 tM (by simp only[ae0,b.arg,aB9,aHk]) (hk.h _ _ _ (by rw[hd,NR b])) (c.args (.cons b.kB .nil))
variable {b:β}
theorem lI{F:α->β->AV}[c:aT x a][U:aT y b](hd:∀xs,D' f xs=jo F xs)(e:aF P gl f [enc a,enc b] (F a b))[hk:bq D D']:bT P gl D f [x,y] K tg=K (F a b) :=
 tM (by simp only[ae0,c.arg,U.arg,aB9,aHk]) (hk.h _ _ _ (by rw[hd,abt c U])) (e.args (.cons c.kB (.cons U.kB .nil)))
theorem D6{F:α->β->o5->AV}{z:AV}{c:o5}[e:aT x a][U:aT y b][g:aT z c](hd:∀xs,D' f xs=rI F xs)(h:aF P gl f [enc a,enc b,enc c] (F a b c))[hk:bq D D']:bT P gl D f [x,y,z] K tg=K (F a b c) :=
 tM (by simp only[ae0,e.arg,U.arg,g.arg,aB9,aHk]) (hk.h _ _ _ (by rw[hd,NS e U g])) (h.args (.cons e.kB (.cons U.kB (.cons g.kB .nil))))
end
section
variable {K:Bool->Prop}{tg:aM K}
variable {b:Bool}
theorem HX(h:b=true):iC b K tg=K true:=by subst h;rfl
theorem HY(h:b=false):iC b K tg=K false:=by subst h;rfl
variable {p:Prop}
theorem avU[Decidable p](h:p):iC (decide p) K tg=K true:=HX (decide_eq_true h)
theorem avV[Decidable p](h:¬p):iC (decide p) K tg=K false:=HY (decide_eq_false h)
variable {a b:Int}
theorem avW(h:a=b):iC (a==b) K tg=K true:=HX (by simp[h])
theorem avX(h:a≠b):iC (a==b) K tg=K false:=HY (by simp[h])
theorem avY(h:a≠b):iC (a != b) K tg=K true:=HX (by simp[h])
theorem avZ(h:a=b):iC (a != b) K tg=K false:=HY (by simp[h])
theorem av0{b:Bool}:iC (!b) K tg=iC b (fun c=>K (!c)) ⟨⟩:=rfl
end
class D7 (b:Bool) (p q:outParam Prop):Prop where
 t:p\/q
 h:(b=true->p)/\(b=false->q)
instance {p:Prop}[Decidable p]:D7 (decide p) p (¬p):=⟨Decidable.em p,fun h=>of_decide_eq_true h,fun h=>of_decide_eq_false h⟩
instance {a b:Int}:D7 (a==b) (a=b) (a≠b):=⟨Decidable.em _,fun h=>by simpa using h,fun h=>by simpa using h⟩
instance {a b:Int}:D7 (a != b) (a≠b) (a=b):=⟨(Decidable.em (a=b)).symm,fun h=>by simpa using h,fun h=>by simpa using h⟩
instance (priority:=low){b:Bool}:D7 b (b=true) (b=false):=⟨by cases b<;>simp,fun h=>h,fun h=>h⟩
variable {b:Bool}{p:Prop}
theorem av{K:Bool->Prop}{tg:aM K}{q:Prop}[i:D7 b p q](c:p->iC true K ⟨⟩)(U:q->iC false K ⟨⟩):iC b K tg:=by
 cases b
 ·exact U (i.h.2 rfl)
 ·exact c (i.h.1 rfl)
theorem av1{x y:α}(h:b=true):(if b=true then x else y)=x:=if_pos h
theorem av2[Decidable p]{x y:α}(h:p):(if decide p=true then x else y)=x:=if_pos (decide_eq_true h)
theorem av3[Decidable p]{x:Option an}{K:an->Prop}{tg:aM K}(h:p):b7 (if p then x else none) K tg=b7 x K ⟨⟩:=by simp only[if_pos h]
theorem abv[Inhabited α]{f:α->AV}(h:n<l.length):(l.map f)[n]?=some (f l[n]!):=by grind
theorem NT[Inhabited α](h:n<l.length):l[n]?=some l[n]!:=by
 rw[List.getElem?_eq_getElem h];simp[h]
theorem ft[Inhabited α](h:n<l.length):l[n]!∈l:=by grind
theorem bZ{α:Type}[Inhabited α]{l:List α}{i:Nat}(h:i<l.length):l.take (i+1)=l.take i++[l[i]!]:=av4 (NT h)
  where av4 {α:Type} {l:List α} {i:Nat} {x:α} (h:l[i]?=some x):l.take (i+1)=l.take i++[x]:=by rw[List.take_add_one,h];rfl
theorem fY[Inhabited α]{i:Nat}(h:i<l.length):l.drop i=l[i]!::l.drop (i+1):=by
 rw[List.drop_eq_getElem_cons h];simp[h]
theorem cS(m n:Nat):((max m n:Nat):Int)=max (m:Int) n:=by omega
theorem cT(m n:Nat):((min m n:Nat):Int)=min (m:Int) n:=by omega
theorem av5{n:Int}(h : -9223372036854775808<=n/\n<9223372036854775808):IntKind.i64.wrap n=n:=wrap64 h.1 h.2
section
variable {P:Program}{gl:cp}
variable {f:Nat}{r:AV}
theorem aF.l9[Enc α](h:Enc.eM a->aF P gl f (enc a::xs) r):aF P gl f (enc a::xs) r :=
 aF.assume (fun _ _ h=>by cases h with|cons _ _ _ _ h _=>exact Enc.kx h) h
variable {β:Type}
theorem aF.zf[Enc α][Enc β]{b:β}(h:Enc.eM a->Enc.eM b->aF P gl f (enc a::enc b::xs) r):aF P gl f (enc a::enc b::xs) r :=
 aF.assume (B:=Enc.eM a/\Enc.eM b) (fun _ _ h=>by cases h with|cons _ _ _ _ h c=>cases c with|cons _ _ _ _ c _=>exact⟨Enc.kx h,Enc.kx c⟩) fun c=>h c.1 c.2
theorem aF.av6{g:Type}[Enc α][Enc β][Enc g]{b:β}{c:g}(h:Enc.eM a->Enc.eM b->Enc.eM c->aF P gl f (enc a::enc b::enc c::xs) r):aF P gl f (enc a::enc b::enc c::xs) r :=
 aF.zf fun j U=>aF.assume (B:=Enc.eM c) (fun _ _ h=>by cases h with|cons _ _ _ _ h i=>cases i with|cons _ _ _ _ i e=>cases e with|cons _ _ _ _ e _=>exact Enc.kx e) (h j U)
end
attribute [go_sem ↓ 2000] avS
attribute [go_sem] HX HY avU avV avW avX avY avZ av0 av1 av2 av3 abv av5
attribute [go_sem] I.arg I.res I.aW I.b8 cE cF cG cH cI cJ cK cL
theorem I.fold(t:I):AV.agg [.str t.name,.list none 2 (t.args.map I.enc)]=t.enc:=t.pR.symm
attribute [go_sem] avR abu I.fold
attribute [go_sem] Int.toNat_natCast Int.natCast_add Int.natCast_one List.length_map
open Enc (enc)
theorem zg :∀{cs:List AV}{b off:Nat},e5 γ b off cs->∀c∈cs,∃v,df γ c v
 |_,_,_,.nil _ _,c,h=>by cases h|_,_,_,.cons _ _ x r v _ _ h1 U,c,h=>by
  rcases I9.1 h with rfl|h
  ·exact⟨v,h1⟩
  ·exact zg U c h
theorem zh{g:bo}:∀{cs:List AV}{ws:List Value},cr g cs ws->∀c∈cs,∃v,bb g c v
 |_,_,.nil,c,h=>by cases h|_,_,.cons x r v ws h1 U,c,h=>by
  rcases I9.1 h with rfl|h
  ·exact⟨v,h1⟩
  ·exact zh U c h
class gO (c:AV) (p:outParam Prop):Prop where
 rJ:∀{γ:e4}{v:Value},df γ c v->p
 nC:∀{g:bo}{v:Value},bb g c v->p
instance (s:List UInt8):gO (.str s) (s.length<=M):=⟨aa9,fun h=>h.G1⟩
instance (b:Bool):gO (.bool b) True:=⟨fun _=>trivial,fun _=>trivial⟩
instance (k:IntKind)(n:Int):gO (.int k n) True:=⟨fun _=>trivial,fun _=>trivial⟩
instance {α:Type}[Enc α](l:List α):gO (.list none (Enc.sz α) (l.map Enc.enc)) (l.length<=M/\∀a∈l,Enc.eM a):=⟨Bs,fun h=>by
 cases h with
 |pure _ _ h=>exact Bs h⟩
instance gO.zc(l:List I):gO (.list none 2 (l.map I.enc)) (l.length<=M/\∀a∈l,a.eM):=⟨fun h=>Bs (α:=I) h,fun h=>by
 cases h with
 |pure _ _ h=>exact Bs (α:=I) h⟩
theorem aT.av7[Enc α](h:aT y a)(c:∃sz xs,Enc.enc a=.list none sz xs):y.eb=true:=by
 obtain⟨sz,xs,c⟩:=c;exact auC h.arg (by rw[h.can,c])
structure Lit where
 neg:Bool
 atom:I
def Lit.enc(x:Lit):AV:=.agg [.bool x.neg,.str x.atom.name,.list none 2 (x.atom.args.map I.enc)]
instance:Enc Lit where
 sz:=3
 enc:=Lit.enc
 arg _:=rfl
 can x:=by
  simp only[Lit.enc,vG,Ja,fM,AV.can,tK,aeZ];rw[show x.atom.args.map (AV.can∘I.enc)=x.atom.args.map I.enc from aB8 fun a _=>Enc.can a]
 inj x y h:=by
  simp only[Lit.enc,AV.agg.injEq,List.cons.injEq,AV.str.injEq,AV.bool.injEq,AV.int.injEq,AV.list.injEq,true_and,and_true]at h;obtain⟨aP,h1,U⟩:=h;have D8:x.neg=y.neg:=aP;have abw:x.atom=y.atom:=by rw[<-x.atom.eta,<-y.atom.eta,h1,(aIA fun a b h=>I.D3 a b h).1 U]
  cases x;cases y;simp only at D8 abw;simp only[D8,abw]
 cl _:=rfl
 eM x:=x.atom.name.length<=M/\(x.atom.args.length<=M/\∀a∈x.atom.args,a.eM)
 nv {γ b off x} h:=by
  have h:=zg h;simp only[Lit.enc,AV.cells,I9,TH,or_false,forall_eq_or_imp,forall_eq]at h;obtain⟨⟨v0,hJ⟩,⟨v1,al⟩,⟨v2,au⟩⟩:=h;exact⟨gO.rJ al,gO.rJ (self:=gO.zc x.atom.args) au⟩
 kx {g x v} h:=by
  obtain⟨ws,rfl,h1,_⟩:=bb.nW h;have h:=zh h1;simp only[I9,TH,or_false,forall_eq_or_imp,forall_eq]at h;obtain⟨⟨v0,hJ⟩,⟨v1,al⟩,⟨v2,au⟩⟩:=h;exact⟨gO.nC al,gO.nC (self:=gO.zc x.atom.args) au⟩
instance:Inhabited Lit:=⟨⟨false,default⟩⟩
theorem Lit.b8(x:Lit):x.enc.cells=[.bool x.neg,.str x.atom.name,.list none 2 (x.atom.args.map I.enc)]:=rfl
theorem Lit.fold(x:Lit):AV.agg [.bool x.neg,.str x.atom.name,.list none 2 (x.atom.args.map I.enc)]=x.enc:=rfl
theorem Lit.no(x:Lit):x.enc.aW=x.enc:=rfl
theorem Lit.ck(x:Lit):x.enc.arg=true:=rfl
theorem Lit.on(x:Lit):x.enc.one=false:=rfl
theorem Lit.sM(x:Lit):x.enc.res=true:=rfl
theorem Lit.eqv(x:Lit):(Enc.enc x:AV)=x.enc:=rfl
theorem Lit.rK(l:List Lit):(Enc.enc l:AV)=.list none 3 (l.map Lit.enc):=rfl
instance aT.aG5(x:Lit):aT x.enc x:=aT.enc x
structure aU where
 head:I
 body:List Lit
def aU.enc(x:aU):AV:=.agg [.str x.head.name,.list none 2 (x.head.args.map I.enc),.list none 3 (x.body.map Lit.enc)]
instance:Enc aU where
 sz:=3
 enc:=aU.enc
 arg _:=rfl
 can x:=by
  simp only[aU.enc,vG,Ja,fM,AV.can,tK,aeZ];rw[show x.head.args.map (AV.can∘I.enc)=x.head.args.map I.enc from aB8 fun a _=>Enc.can a,show x.body.map (AV.can∘Lit.enc)=x.body.map Lit.enc from aB8 fun a _=>Enc.can a]
 inj x y h:=by
  simp only[aU.enc,AV.agg.injEq,List.cons.injEq,AV.str.injEq,AV.bool.injEq,AV.int.injEq,AV.list.injEq,true_and,and_true]at h;obtain⟨aP,h1,U⟩:=h;have D9:x.head=y.head:=by rw[<-x.head.eta,<-y.head.eta,aP,(aIA fun a b h=>I.D3 a b h).1 h1]
  have Ea:x.body=y.body:=(aIA (f:=Lit.enc) fun a b h=>Enc.inj a b h).1 U;cases x;cases y;simp only at D9 Ea;simp only[D9,Ea]
 cl _:=rfl
 eM x:=x.head.name.length<=M/\(x.head.args.length<=M/\∀a∈x.head.args,a.eM)/\(x.body.length<=M/\∀a∈x.body,Enc.eM a)
 nv {γ b off x} h:=by
  have h:=zg h;simp only[aU.enc,AV.cells,I9,TH,or_false,forall_eq_or_imp,forall_eq]at h;obtain⟨⟨v0,hJ⟩,⟨v1,al⟩,⟨v2,au⟩⟩:=h;exact⟨gO.rJ hJ,gO.rJ (self:=gO.zc x.head.args) al,(gO.rJ (c:=.list none (Enc.sz Lit) (x.body.map Enc.enc)) au)⟩
 kx {g x v} h:=by
  obtain⟨ws,rfl,h1,_⟩:=bb.nW h;have h:=zh h1;simp only[I9,TH,or_false,forall_eq_or_imp,forall_eq]at h;obtain⟨⟨v0,hJ⟩,⟨v1,al⟩,⟨v2,au⟩⟩:=h;exact⟨gO.nC hJ,gO.nC (self:=gO.zc x.head.args) al,(gO.nC (c:=.list none (Enc.sz Lit) (x.body.map Enc.enc)) au)⟩
instance:Inhabited aU:=⟨⟨default,[]⟩⟩
theorem aU.b8(x:aU):x.enc.cells=[.str x.head.name,.list none 2 (x.head.args.map I.enc),.list none 3 (x.body.map Lit.enc)]:=rfl
theorem aU.fold(x:aU):AV.agg [.str x.head.name,.list none 2 (x.head.args.map I.enc),.list none 3 (x.body.map Lit.enc)]=x.enc:=rfl
theorem aU.no(x:aU):x.enc.aW=x.enc:=rfl
theorem aU.ck(x:aU):x.enc.arg=true:=rfl
theorem aU.on(x:aU):x.enc.one=false:=rfl
theorem aU.sM(x:aU):x.enc.res=true:=rfl
theorem aU.eqv(x:aU):(Enc.enc x:AV)=x.enc:=rfl
theorem aU.rK(l:List aU):(Enc.enc l:AV)=.list none 3 (l.map aU.enc):=rfl
instance aT.av8(x:aU):aT x.enc x:=aT.enc x
instance hV.av8(l:List aU):hV (l.map aU.enc) l:=hV.map l
instance aT.aG6{xs:List AV}{l:List aU}[h:hV xs l]:aT (.list none 3 xs) l:=aT.list h
structure ba where
 var:List UInt8
 term:I
def ba.enc(x:ba):AV:=.agg [.str x.var,.str x.term.name,.list none 2 (x.term.args.map I.enc)]
instance:Enc ba where
 sz:=3
 enc:=ba.enc
 arg _:=rfl
 can x:=by
  simp only[ba.enc,vG,Ja,fM,AV.can,tK,aeZ];rw[show x.term.args.map (AV.can∘I.enc)=x.term.args.map I.enc from aB8 fun a _=>Enc.can a]
 inj x y h:=by
  simp only[ba.enc,AV.agg.injEq,List.cons.injEq,AV.str.injEq,AV.bool.injEq,AV.int.injEq,AV.list.injEq,true_and,and_true]at h;obtain⟨aP,h1,U⟩:=h;have abx:x.var=y.var:=aP;have aby:x.term=y.term:=by rw[<-x.term.eta,<-y.term.eta,h1,(aIA fun a b h=>I.D3 a b h).1 U]
  cases x;cases y;simp only at abx aby;simp only[abx,aby]
 cl _:=rfl
 eM x:=x.var.length<=M/\x.term.name.length<=M/\(x.term.args.length<=M/\∀a∈x.term.args,a.eM)
 nv {γ b off x} h:=by
  have h:=zg h;simp only[ba.enc,AV.cells,I9,TH,or_false,forall_eq_or_imp,forall_eq]at h;obtain⟨⟨v0,hJ⟩,⟨v1,al⟩,⟨v2,au⟩⟩:=h;exact⟨gO.rJ hJ,gO.rJ al,gO.rJ (self:=gO.zc x.term.args) au⟩
 kx {g x v} h:=by
  obtain⟨ws,rfl,h1,_⟩:=bb.nW h;have h:=zh h1;simp only[I9,TH,or_false,forall_eq_or_imp,forall_eq]at h;obtain⟨⟨v0,hJ⟩,⟨v1,al⟩,⟨v2,au⟩⟩:=h;exact⟨gO.nC hJ,gO.nC al,gO.nC (self:=gO.zc x.term.args) au⟩
instance:Inhabited ba:=⟨⟨[],default⟩⟩
theorem ba.b8(x:ba):x.enc.cells=[.str x.var,.str x.term.name,.list none 2 (x.term.args.map I.enc)]:=rfl
theorem ba.fold(x:ba):AV.agg [.str x.var,.str x.term.name,.list none 2 (x.term.args.map I.enc)]=x.enc:=rfl
theorem ba.no(x:ba):x.enc.aW=x.enc:=rfl
theorem ba.ck(x:ba):x.enc.arg=true:=rfl
theorem ba.on(x:ba):x.enc.one=false:=rfl
theorem ba.sM(x:ba):x.enc.res=true:=rfl
theorem ba.eqv(x:ba):(Enc.enc x:AV)=x.enc:=rfl
theorem ba.rK(l:List ba):(Enc.enc l:AV)=.list none 3 (l.map ba.enc):=rfl
instance aT.av9(x:ba):aT x.enc x:=aT.enc x
instance hV.av9(l:List ba):hV (l.map ba.enc) l:=hV.map l
instance aT.aG7{xs:List AV}{l:List ba}[h:hV xs l]:aT (.list none 3 xs) l:=aT.list h
instance aT.abz:aT (.aV 3) ([]:List ba):=aT.aV (α:=ba)
instance aT.aG8{a0:List UInt8}{dC:List UInt8}{a2:AV}{e7:List I}[U:aT a2 e7]:aT (.agg [.str a0,.str dC,a2]) (ba.mk a0 (I.mk dC e7)):=⟨by
 simp only[AV.arg,AV.pure,ae0,aB9,U.av7 ⟨_,_,rfl⟩,Bool.and_true];rfl,by
 simp only[vG,Ja,fM,U.can];simp only[AV.can];rfl⟩
structure bE where
 src:List UInt8
 dst:List UInt8
 neg:Bool
def bE.enc(x:bE):AV:=.agg [.str x.src,.str x.dst,.bool x.neg]
instance:Enc bE where
 sz:=3
 enc:=bE.enc
 arg _:=rfl
 can x:=by
  simp only[bE.enc,vG,Ja,fM,AV.can,tK,aeZ]
  skip
 inj x y h:=by
  simp only[bE.enc,AV.agg.injEq,List.cons.injEq,AV.str.injEq,AV.bool.injEq,AV.int.injEq,AV.list.injEq,true_and,and_true]at h;obtain⟨aP,h1,U⟩:=h;have abA:x.src=y.src:=aP;have abB:x.dst=y.dst:=h1;have D8:x.neg=y.neg:=U;cases x;cases y;simp only at abA abB D8;simp only[abA,abB,D8]
 cl _:=rfl
 eM x:=x.src.length<=M/\x.dst.length<=M
 nv {γ b off x} h:=by
  have h:=zg h;simp only[bE.enc,AV.cells,I9,TH,or_false,forall_eq_or_imp,forall_eq]at h;obtain⟨⟨v0,hJ⟩,⟨v1,al⟩,⟨v2,au⟩⟩:=h;exact⟨gO.rJ hJ,gO.rJ al⟩
 kx {g x v} h:=by
  obtain⟨ws,rfl,h1,_⟩:=bb.nW h;have h:=zh h1;simp only[I9,TH,or_false,forall_eq_or_imp,forall_eq]at h;obtain⟨⟨v0,hJ⟩,⟨v1,al⟩,⟨v2,au⟩⟩:=h;exact⟨gO.nC hJ,gO.nC al⟩
instance:Inhabited bE:=⟨⟨[],[],false⟩⟩
theorem bE.b8(x:bE):x.enc.cells=[.str x.src,.str x.dst,.bool x.neg]:=rfl
theorem bE.fold(x:bE):AV.agg [.str x.src,.str x.dst,.bool x.neg]=x.enc:=rfl
theorem bE.no(x:bE):x.enc.aW=x.enc:=rfl
theorem bE.ck(x:bE):x.enc.arg=true:=rfl
theorem bE.on(x:bE):x.enc.one=false:=rfl
theorem bE.sM(x:bE):x.enc.res=true:=rfl
theorem bE.eqv(x:bE):(Enc.enc x:AV)=x.enc:=rfl
theorem bE.rK(l:List bE):(Enc.enc l:AV)=.list none 3 (l.map bE.enc):=rfl
instance aT.aG9(x:bE):aT x.enc x:=aT.enc x
structure eu where
 name:List UInt8
 level:Int
def eu.enc(x:eu):AV:=.agg [.str x.name,.int .i64 x.level]
instance:Enc eu where
 sz:=2
 enc:=eu.enc
 arg _:=rfl
 can x:=by
  simp only[eu.enc,vG,Ja,fM,AV.can,tK,aeZ]
  skip
 inj x y h:=by
  simp only[eu.enc,AV.agg.injEq,List.cons.injEq,AV.str.injEq,AV.bool.injEq,AV.int.injEq,AV.list.injEq,true_and,and_true]at h;obtain⟨aP,h1⟩:=h;have Eb:x.name=y.name:=aP;have abC:x.level=y.level:=h1;cases x;cases y;simp only at Eb abC;simp only[Eb,abC]
 cl _:=rfl
 eM x:=x.name.length<=M
 nv {γ b off x} h:=by
  have h:=zg h;simp only[eu.enc,AV.cells,I9,TH,or_false,forall_eq_or_imp,forall_eq]at h;obtain⟨⟨v0,hJ⟩,⟨v1,al⟩⟩:=h;exact gO.rJ hJ
 kx {g x v} h:=by
  obtain⟨ws,rfl,h1,_⟩:=bb.nW h;have h:=zh h1;simp only[I9,TH,or_false,forall_eq_or_imp,forall_eq]at h;obtain⟨⟨v0,hJ⟩,⟨v1,al⟩⟩:=h;exact gO.nC hJ
instance:Inhabited eu:=⟨⟨[],0⟩⟩
theorem eu.b8(x:eu):x.enc.cells=[.str x.name,.int .i64 x.level]:=rfl
theorem eu.fold(x:eu):AV.agg [.str x.name,.int .i64 x.level]=x.enc:=rfl
theorem eu.no(x:eu):x.enc.aW=x.enc:=rfl
theorem eu.ck(x:eu):x.enc.arg=true:=rfl
theorem eu.on(x:eu):x.enc.one=false:=rfl
theorem eu.sM(x:eu):x.enc.res=true:=rfl
theorem eu.eqv(x:eu):(Enc.enc x:AV)=x.enc:=rfl
theorem eu.rK(l:List eu):(Enc.enc l:AV)=.list none 2 (l.map eu.enc):=rfl
instance hV.aHa(l:List eu):hV (l.map eu.enc) l:=hV.map l
instance aT.aHb{xs:List AV}{l:List eu}[h:hV xs l]:aT (.list none 2 xs) l:=aT.list h
structure fZ where
 name:List UInt8
 args:Int
 head:Bool
 body:Bool
def fZ.enc(x:fZ):AV:=.agg [.str x.name,.int .i64 x.args,.bool x.head,.bool x.body]
instance:Enc fZ where
 sz:=4
 enc:=fZ.enc
 arg _:=rfl
 can x:=by
  simp only[fZ.enc,vG,Ja,fM,AV.can,tK,aeZ]
  skip
 inj x y h:=by
  simp only[fZ.enc,AV.agg.injEq,List.cons.injEq,AV.str.injEq,AV.bool.injEq,AV.int.injEq,AV.list.injEq,true_and,and_true]at h;obtain⟨aP,h1,U,ai⟩:=h;have Eb:x.name=y.name:=aP;have abD:x.args=y.args:=h1;have D9:x.head=y.head:=U;have Ea:x.body=y.body:=ai;cases x;cases y;simp only at Eb abD D9 Ea;simp only[Eb,abD,D9,Ea]
 cl _:=rfl
 eM x:=x.name.length<=M
 nv {γ b off x} h:=by
  have h:=zg h;simp only[fZ.enc,AV.cells,I9,TH,or_false,forall_eq_or_imp,forall_eq]at h;obtain⟨⟨v0,hJ⟩,⟨v1,al⟩,⟨v2,au⟩,⟨v3,aS⟩⟩:=h;exact gO.rJ hJ
 kx {g x v} h:=by
  obtain⟨ws,rfl,h1,_⟩:=bb.nW h;have h:=zh h1;simp only[I9,TH,or_false,forall_eq_or_imp,forall_eq]at h;obtain⟨⟨v0,hJ⟩,⟨v1,al⟩,⟨v2,au⟩,⟨v3,aS⟩⟩:=h;exact gO.nC hJ
instance:Inhabited fZ:=⟨⟨[],0,false,false⟩⟩
theorem fZ.b8(x:fZ):x.enc.cells=[.str x.name,.int .i64 x.args,.bool x.head,.bool x.body]:=rfl
theorem fZ.fold(x:fZ):AV.agg [.str x.name,.int .i64 x.args,.bool x.head,.bool x.body]=x.enc:=rfl
theorem fZ.no(x:fZ):x.enc.aW=x.enc:=rfl
theorem fZ.ck(x:fZ):x.enc.arg=true:=rfl
theorem fZ.on(x:fZ):x.enc.one=false:=rfl
theorem fZ.sM(x:fZ):x.enc.res=true:=rfl
theorem fZ.eqv(x:fZ):(Enc.enc x:AV)=x.enc:=rfl
theorem fZ.rK(l:List fZ):(Enc.enc l:AV)=.list none 4 (l.map fZ.enc):=rfl
theorem I.awa(t:I):I.mk t.name t.args=t:=t.eta
def ma(P:Program)(gl:cp)(f:Nat)(vs:List AV)(H:List ax)(K:AV->List ax->Prop)(_:aM K):Prop:=jK P gl f vs H K
def abE(P:Program)(gl:cp)(v:AV)(vs:List AV)(H:List ax)(K:AV->List ax->Prop)(_:aM K):Prop:=match v with
 |.fn f gx=>jK P gl f (vs++gx.map AV.aW) H K|_=>False
def tN(vs gx:List AV):Option (List AV):=xt vs (mT gx)
  where xt:List AV->Option (List AV)->Option (List AV)
 |[],o=>o|x::r,o=>Bt (some x) (xt r o)
theorem awb(vs gx:List AV):tN vs gx=some (vs++gx.map AV.aW):=by
 unfold tN;induction vs with
 |nil=>simp only[tN.xt,ze,List.nil_append]|cons x r ih=>simp only[tN.xt,ih,Bt,aB5]
section
variable {P:Program}{gl:cp}{D:bc}{f:Nat}
variable {d:Option Nat}{xs:List aI}{s:an}{K:an->Prop}{t:aM K}
theorem awc :bV P gl D s K t (.hB d f xs)=bK (eG gl s.env xs) (fun vs=>bK (mT vs) (fun vs=>ma P gl f vs s.heap (fun r H'=>b7 (({ s with heap:=H' }:an).fr d r) K ⟨⟩) ⟨⟩) ⟨⟩) ⟨⟩:=by
 rw[Ux];cases eG gl s.env xs with
 |none=>rfl|some vs =>
  show _=bK (mT vs) _ ⟨⟩;rw[ze];rfl
theorem awd :bV P gl D s K t (.lS d f xs)=bK (eG gl s.env xs) (fun vs=>bK (mT vs) (fun vs=>ma P gl f vs s.heap (fun r H'=>(∃n,H'=s.heap++aIC n .dead)/\b7 (({ s with heap:=H' }:an).fr d r) K ⟨⟩) ⟨⟩) ⟨⟩) ⟨⟩:=by
 rw[Uz];cases eG gl s.env xs with
 |none=>rfl|some vs =>
  show _=bK (mT vs) _ ⟨⟩;rw[ze];rfl
theorem awe{x:aI} :bV P gl D s K t (.lg d x xs)=bK (bg gl s.env x) (fun v=>bK (eG gl s.env xs) (fun vs=>bK (mT vs) (fun vs=>abE P gl v vs s.heap (fun r H'=>b7 (({ s with heap:=H' }:an).fr d r) K ⟨⟩) ⟨⟩) ⟨⟩) ⟨⟩) ⟨⟩:=by
 rw[Uy];cases bg gl s.env x with
 |none=>rfl|some v=>cases eG gl s.env xs with
  |none=>cases v<;>rfl|some vs =>
   show _=bK (mT vs) _ ⟨⟩;rw[ze];cases v<;>rfl
def NV(P:Program)(gl:cp)(s:an)(d:Option Nat)(f u:Nat)(vs:List AV)(K:an->Prop)(_:aM K):cW->Prop
 |.v (.list (some e) sz ys)=>ma P gl f (.list (some e) sz ys::vs) s.heap (fun r H'=>b7 ((⟨s.env.ins u (.v (.list none sz ys)),H'⟩:an).fr d r) K ⟨⟩) ⟨⟩|.v v=>ma P gl f (v.aW::vs) s.heap (fun r H'=>b7 (({ s with heap:=H' }:an).fr d r) K ⟨⟩) ⟨⟩|_=>False
section
variable {s:an}{d:Option Nat}{u:Nat}{vs:List AV}{K:an->Prop}{tg:aM K}
theorem awf(e sz:Nat)(ys:List AV):NV P gl s d f u vs K tg (.v (.list (some e) sz ys))=ma P gl f (.list (some e) sz ys::vs) s.heap (fun r H'=>b7 ((⟨s.env.ins u (.v (.list none sz ys)),H'⟩:an).fr d r) K ⟨⟩) ⟨⟩:=_root_.id rfl
theorem awg(sz:Nat):NV P gl s d f u vs K tg (.v (.aV sz))=ma P gl f (.aV sz::vs) s.heap (fun r H'=>b7 (({ s with heap:=H' }:an).fr d r) K ⟨⟩) ⟨⟩:=_root_.id rfl
end
theorem awh{u:Nat} :bV P gl D s K t (.my d f u xs)=bK (Env.get s.env u) (fun e=>bK (eG gl s.env xs) (fun vs=>bK (mT vs) (fun vs=>NV P gl s d f u vs K ⟨⟩ e) ⟨⟩) ⟨⟩) ⟨⟩:=by
 rw[UA];cases Env.get s.env u with
 |none=>rfl|some e=>cases eG gl s.env xs with
  |none=>rfl|some vs =>
   show _=bK (mT vs) _ ⟨⟩;rw[ze];cases e with
   |v x=>cases x with
    |list o sz ys=>cases o<;>rfl|_=>rfl
   |_=>rfl
theorem awi[Decidable p]{A:Prop}(h:p):(if p then A else False)=A:=if_pos h
variable {gx:List AV}{K:AV->List ax->Prop}{tg:aM K}
theorem awj :abE P gl (.fn f gx) vs H K tg=bK (tN vs gx) (fun vs=>ma P gl f vs H K ⟨⟩) ⟨⟩:=by
 rw[awb];rfl
variable {o:Option (List AV)}
theorem awk :tN.xt [] o=o:=_root_.id rfl
theorem awl{r:List AV} :tN.xt (x::r) o=Bt (some x) (tN.xt r o):=_root_.id rfl
theorem iV :tN vs gx=tN.xt vs (mT gx):=_root_.id rfl
theorem iW{K':AV->List ax->Prop}(h:jK P gl f vs H K')(hk:∀r H',K' r H'->K r H'):ma P gl f vs H K tg:=h.mono hk
variable {r:AV}
theorem b6{H':List ax}(h:bn P gl f vs H fun r' c=>r'=r/\c=H')(hk:K r H'):ma P gl f vs H K tg :=
 ⟨h.mono fun _ _ ⟨e,g⟩=>by rw[e,g];exact hk,r,H',hk⟩
theorem abF(c:j6 P f=true)(aE:vs.all AV.arg=true)(e:aF P gl f vs r)(hk:K r H):ma P gl f vs H K tg :=
 b6 (bn.ann c aE e) hk
variable {α β o5 D5:Type}[Enc α][Enc β][Enc o5][Enc D5]
variable {a:α}
theorem abG[c:aT x a](e:j6 P f=true)(g:aF P gl f [enc a] r)(hk:K r H):ma P gl f [x] H K tg :=
 abF e (by simp only[ae0,c.arg,aB9,aHk]) (g.args (.cons c.kB .nil)) hk
theorem By{b:β}[c:aT x a][U:aT y b](e:j6 P f=true)(g:aF P gl f [enc a,enc b] r)(hk:K r H):ma P gl f [x,y] H K tg :=
 abF e (by simp only[ae0,c.arg,U.arg,aB9,aHk]) (g.args (.cons c.kB (.cons U.kB .nil))) hk
end
theorem aF.awm{P:Program}{gl:cp}{f:Nat}{r:AV}(k:bn P gl f xs [] fun m _=>bQ m r)(ah:xs.all AV.arg=true)(q:r.res=true)(s:cP r):aF P gl f xs r:=by
 intro γ w vs u z C;let g:bo:=⟨γ,fun b=>if b<w.heap.size then .outer else .none,fun _=>none⟩
 have j:Rel P gl 0 g (lz []) su w :=
  ⟨.nil,rfl,rfl,fun t e he=>by simp[lz,Env.get]at he,fun id bA D=>by simp[lz]at D,u,fun b ae=>by
   by_cases h:b<w.heap.size
   ·exact h
   ·simp[g,h]at ae,z,fun id b h=>by cases h⟩
 have E:∀x∈xs,cP x:=fun x F=>Dl (List.all_eq_true.1 ah x F);refine(k.2 g w vs j (C.yR ah g rfl) (fun i x v h _=>(E x (List.mem_of_getElem? h)).gb)).mono ?_;rintro e w' ⟨v,O,Q,g',rfl,G,c,J,K,_⟩;have L:∀b,b<w.heap.size->g'.bD b=.outer/\w'.heap[b]?=w.heap[b]?/\∀o,g'.γ b o=γ b o:=fun b ae=>c.outer b (by simp[g,ae]);refine⟨v,g'.γ,rfl,c.γ,c.size,fun b ae=>(L b ae).2,⟨c.os,c.out⟩,J.ff,?_,s.gb⟩;exact(G _ _ K).Dk q _ rfl
theorem I.ind{p:I->Prop}(h:∀t,(∀u∈t.args,p u)->p t):∀t,p t
 |.mk n l=>h (.mk n l) (go h l)
  where go {p:I->Prop} (h:∀t,(∀u∈t.args,p u)->p t):∀l:List I,∀u∈l,p u
 |[],u,c=>by cases c|t::r,u,c=>by
  rcases I9.1 c with e|c
  ·rw[e];exact I.ind h t
  ·exact go h r u c
attribute [go_sem ↓ 2000] awc awd awe awh
attribute [go_sem 2000] awi awf awg awj awk awl iV I.awa
attribute [go_sem 2000] Lit.b8 Lit.fold Lit.no Lit.ck Lit.on Lit.sM Lit.eqv Lit.rK aU.b8 aU.fold aU.no aU.ck aU.on aU.sM aU.eqv aU.rK ba.b8 ba.fold ba.no ba.ck ba.on ba.sM ba.eqv ba.rK bE.b8 bE.fold bE.no bE.ck bE.on bE.sM bE.eqv bE.rK eu.b8 eu.fold eu.no eu.ck eu.on eu.sM eu.eqv eu.rK fZ.b8 fZ.fold fZ.no fZ.ck fZ.on fZ.sM fZ.eqv fZ.rK
mutual
def c0:I->Nat|.mk _ l=>iX l+1
def iX:List I->Nat|[]=>0|t::r=>max (c0 t) (iX r)
end
theorem NX:∀(l:List I)(t:I),iX (l++[t])=max (iX l) (c0 t)
 |[],t=>by simp[iX]|u::l,t=>by simp only[aB5,iX,NX l t];omega
theorem Bz:∀{l:List I}{t:I},t∈l->c0 t<=iX l
 |u::l,t,h=>by
  simp only[iX];rcases I9.1 h with rfl|h
  ·omega
  ·have:=Bz h;omega
theorem vI(t:I):c0 t=iX t.args+1:=by cases t;simp only[c0,I.args]
theorem abI(l:List I)(i:Nat):iX (l.take i)<=iX l:=by
 induction l generalizing i with
 |nil=>simp|cons t r ih=>cases i with
  |zero=>simp[iX]|succ i=>simp only[List.take_succ_cons,iX];have:=ih i;omega
mutual
def dG:I->List aj|.mk n l=>match l with|[]=>[n]|t::r=>dG t++cw r
def cw:List I->List aj|[]=>[]|t::r=>dG t++cw r
end
theorem qI(t:I):dG t=if t.args.length=0 then[t.name]else cw t.args:=by
 obtain⟨n,l⟩:=t;cases l<;>simp[dG,I.args,I.name,cw]
theorem HZ:∀(l:List I)(t:I),cw (l++[t])=cw l++dG t
 |[],t=>by simp[cw]|u::l,t=>by simp only[aB5,cw,HZ l t,List.append_assoc]
theorem NY{l:List I}{i:Nat}(h:i<l.length):(cw (l.take i)).length+(dG l[i]!).length<=(cw l).length:=by
 have U:l=l.take i++(l[i]!::l.drop (i+1)):=by rw[<-fY h,List.take_append_drop]
 have c:∀a b:List I,cw (a++b)=cw a++cw b:=fun a b=>by
  induction a with
  |nil=>simp[cw]|cons t r ih=>simp only[aB5,cw,ih,List.append_assoc]
 conv=>rhs;rw[U,c]
 simp only[cw,List.length_append];omega
theorem awI(l:List I):cw l=l.flatMap dG:=by
 induction l with
 |nil=>simp[cw]|cons t r ih=>simp only[cw,ih,List.flatMap_cons]
def vJ(s:aj):List aj->Nat->Int
 |[],_=>-1|t::r,i=>if t=s then i else vJ s r (i+1)
def vK(s:aj)(l:List aj):Int:=vJ s l 0
theorem abJ(s:aj):∀(l:List aj)(i:Nat),(0<=vJ s l i)↔l.contains s=true
 |[],i=>by simp[vJ]|t::r,i=>by
  simp only[vJ,List.contains_cons];by_cases h:t=s
  ·subst h;simp
  ·rw[if_neg h,abJ s r (i+1)];have:(s==t)=false:=by grind
   rw[this,Bool.false_or]
def mb(out:List aj)(s:aj):List aj:=if e9 s&&!out.contains s then out++[s]else out
def qJ(l:List aj):List aj:=l.foldl mb []
def nD(l:List I):List aj:=qJ (cw l)
theorem awJ(out:List aj)(s:aj):(mb out s).length<=out.length+1:=by unfold mb;split<;>simp
theorem awK(l:List aj)(s:aj):qJ (l++[s])=mb (qJ l) s:=by simp[qJ,List.foldl_append]
theorem awL(l:List aj):(qJ l).length<=l.length:=by
 have h:∀(l out:List aj),(l.foldl mb out).length<=out.length+l.length:=fun l=>by
  induction l with
  |nil=>intro out;simp|cons t r ih=>intro out;simp only[List.foldl_cons,aHV];have:=ih (mb out t);have:=awJ out t;omega
 have:=h l [];simpa[qJ]using this
variable {s:aj}
theorem awM{out:List aj}(c:e9 s=true)(U:out.contains s=false):mb out s=out++[s]:=by rw[mb,c,U];rfl
theorem awN{out:List aj}(c:e9 s=false):mb out s=out:=by simp[mb,c]
theorem awO{out:List aj}(U:out.contains s=true):mb out s=out:=by rw[mb,U,Bool.not_true,Bool.and_false];rfl
theorem N0(a b:Nat):hU b a = - hU a b:=by unfold hU;split<;>split<;>omega
theorem BB:∀a b:aj,dk b a = - dk a b
 |[],[]=>rfl|[],_::_=>rfl|_::_,[]=>rfl|x::r,y::t=>by
  simp only[dk];by_cases h:x=y
  ·subst h;simp only[if_true];exact BB r t
  ·grind
theorem Ef:∀a b c:aj,dk a b<0->dk b c<0->dk a c<0
 |[],[],_,h,_=>by simp[dk]at h|[],_::_,[],_,h=>by simp[dk]at h|[],_::_,_::_,_,_=>by simp[dk]|_::_,[],_,h,_=>by simp[dk]at h|_::_,_::_,[],_,h=>by simp[dk]at h|x::r,y::t,z::u,h1,U=>by
  simp only[dk]at h1 U ⊢;by_cases f:x=y
  ·subst f;simp only[if_true]at h1;by_cases e:x=z
   ·subst e;simp only[if_true]at U ⊢;exact Ef r t u h1 U
   ·rw[if_neg e]at U ⊢;exact U
  ·grind
theorem il{c:UInt8}(h:hv c=true):48<=c.toNat/\c.toNat<=57:=by simpa[hv]using h
theorem aw7{t:aj}(J:hh s=some n)(U:hh t=some n):s=t:=by
 have key:∀s:aj,hh s=some n->(∃a,s=[a]/\hv a=true/\n=a.toNat-48)\/(∃a b,s=[a,b]/\hv a=true/\hv b=true/\49<=a.toNat/\n=10*(a.toNat-48)+(b.toNat-48)) \/
   (∃a b c,s=[a,b,c]/\hv a=true/\hv b=true/\hv c=true/\49<=a.toNat/\n=10*(10*(a.toNat-48)+(b.toNat-48))+(c.toNat-48)) \/
   (∃a b c d,s=[a,b,c,d]/\hv a=true/\hv b=true/\hv c=true/\hv d=true/\49<=a.toNat/\n=10*(10*(10*(a.toNat-48)+(b.toNat-48))+(c.toNat-48))+(d.toNat-48)):=by
  intro s h;unfold hh at h;split at h
  ·cases h
  ·rename_i x r;split at h
   ·rename_i K;obtain⟨w,L,hd⟩:=K;simp only[Option.some.injEq]at h;have i:r≠[]->hv x=true->49<=x.toNat:=fun O ah=>by
     have:=il ah;have P:x≠48:=fun e=>L ⟨e,O⟩;have:x.toNat≠48:=fun e=>P (UInt8.toNat_inj.1 (by rw[e];rfl));omega
    match r,w,hd,h,i with
    |[],_,hd,h,_=>simp at hd;exact .inl ⟨x,rfl,hd,by simpa[kb]using h.symm⟩|[b],_,hd,h,i=>simp at hd;exact .inr (.inl ⟨x,b,rfl,hd.1,hd.2,i (by simp) hd.1,by simpa[kb]using h.symm⟩)|[b,c],_,hd,h,i=>simp at hd;exact .inr (.inr (.inl ⟨x,b,c,rfl,hd.1,hd.2.1,hd.2.2,i (by simp) hd.1,by simpa[kb]using h.symm⟩))|[b,c,d],_,hd,h,i=>simp at hd;exact .inr (.inr (.inr ⟨x,b,c,d,rfl,hd.1,hd.2.1,hd.2.2.1,hd.2.2.2,i (by simp) hd.1,by simpa[kb]using h.symm⟩))|_::_::_::_::_,w,_,_,_=>simp at w
   ·cases h
 have e:∀{a b:UInt8},a.toNat=b.toNat->a=b:=fun h=>UInt8.toNat_inj.1 h;rcases key s J with⟨a,rfl,f,z⟩|⟨a,b,rfl,f,k,D,z⟩|⟨a,b,c,rfl,f,k,q,D,z⟩|⟨a,b,c,d,rfl,f,k,q,E,D,z⟩ <;>
 rcases key t U with⟨j,rfl,g,cv⟩|⟨j,o,rfl,g,m,F,cv⟩|⟨j,o,C,rfl,g,m,u,F,cv⟩|⟨j,o,C,Q,rfl,g,m,u,G,F,cv⟩ <;>
 first
  |(exfalso;have:=il f;have:=il g;(try have:=il k);(try have:=il m);(try have:=il q);(try have:=il u);(try have:=il E);(try have:=il G);omega)|(have:=il f;have:=il g;rw[e (a:=a) (b:=j) (by omega)])|(have:=il f;have:=il g;have:=il k;have:=il m;rw[e (a:=a) (b:=j) (by omega),e (a:=b) (b:=o) (by omega)])|(have:=il f;have:=il g;have:=il k;have:=il m;have:=il q;have:=il u;rw[e (a:=a) (b:=j) (by omega),e (a:=b) (b:=o) (by omega),e (a:=c) (b:=C) (by omega)])|(have:=il f;have:=il g;have:=il k;have:=il m;have:=il q;have:=il u;have:=il E;have:=il G;rw[e (a:=a) (b:=j) (by omega),e (a:=b) (b:=o) (by omega),e (a:=c) (b:=C) (by omega),e (a:=d) (b:=Q) (by omega)])
theorem abP{t:I}(h:kA t=0):t.args=[]/\hh t.name=some (rH t.name):=by
 refine⟨NI (by omega),?_⟩;unfold kA at h;split at h
 ·omega
 ·split at h
  ·rename_i U;rw[rH];cases c:hh t.name with
   |none=>rw[c]at U;cases U|some n=>rfl
  ·split at h<;>omega
theorem N1(a b:Nat):hU a b<0↔a<b:=by unfold hU;split<;>(try split)<;>omega
theorem N2(a b:Nat):hU a b=0↔a=b:=by unfold hU;split<;>(try split)<;>omega
theorem aw8(c d v w e f:Nat)(s l:Int):Bq c d v w e f s l<0↔c<d\/c=d/\(c=0/\v<w\/c≠0/\(e<f\/e=f/\(s<0\/s=0/\l<0))):=by
 unfold Bq;split
 ·rw[N1];omega
 ·split
  ·rw[N1];omega
  ·split
   ·rw[N1];omega
   ·split<;>omega
theorem abQ(c d v w e f:Nat)(s l:Int):Bq c d v w e f s l=0↔c=d/\(c=0/\v=w\/c≠0/\e=f/\s=0/\l=0):=by
 unfold Bq;split
 ·rw[N2];omega
 ·split
  ·rw[N2];omega
  ·split
   ·rw[N2];omega
   ·split<;>omega
theorem abR:∀l m:List I,(∀t∈l,∀u,cf u t = - cf t u)->fy m l = - fy l m
 |[],[],_=>by simp[fy]|[],_::_,_=>by simp[fy]|_::_,[],_=>by simp[fy]|t::r,u::v,h=>by
  simp only[fy];have c:=h t (by simp) u;have U:=abR r v fun x ah=>h x (by simp[ah]);by_cases e:cf t u=0
  ·rw[if_pos e,if_pos (by omega)];exact U
  ·rw[if_neg e,if_neg (by omega)];exact c
theorem Eg:∀t u:I,cf u t = - cf t u:=I.ind fun t ih u=>by
 rw[D2 t u,D2 u t,abR t.args u.args ih,BB t.name u.name];unfold Bq;have c:=N0 (kA t) (kA u);have e:=N0 (rH t.name) (rH u.name);have f:=N0 t.args.length u.args.length;by_cases g:kA t=kA u
 ·grind
 ·grind
theorem H0:∀l m:List I,(∀t∈l,∀u,cf t u=0->t=u)->fy l m=0->l=m
 |[],[],_,_=>rfl|[],_::_,_,h=>by simp[fy]at h|_::_,[],_,h=>by simp[fy]at h|t::r,u::v,c,h=>by
  simp only[fy]at h;by_cases e:cf t u=0
  ·rw[if_pos e]at h;rw[c t (by simp) u e,H0 r v (fun x ah=>c x (by simp[ah])) h]
  ·rw[if_neg e]at h;exact absurd h e
theorem vL:∀t u:I,cf t u=0->t=u:=I.ind fun t ih u h=>by
 rw[D2,abQ]at h;obtain⟨g,U⟩:=h;rw[<-t.eta,<-u.eta];rcases U with⟨U,c⟩|⟨_,c,e,f⟩
 ·have a:=abP U;have b:=abP (t:=u) (by omega);rw[a.1,b.1,aw7 a.2 (by rw[c];exact b.2)]
 ·rw[mP.1 e,H0 _ _ ih f]
theorem abS:∀l:List I,(∀t∈l,cf t t=0)->fy l l=0
 |[],_=>by simp[fy]|t::r,h=>by simp only[fy,h t (by simp),if_true];exact abS r fun x ah=>h x (by simp[ah])
theorem H2:∀t:I,cf t t=0:=I.ind fun t ih=>by
 rw[D2,abQ];have:=abS t.args ih;have:dk t.name t.name=0:=mP.2 rfl;refine⟨rfl,?_⟩;by_cases h:kA t=0
 ·exact .inl ⟨h,rfl⟩
 ·grind
theorem abT:∀l m k:List I,(∀t∈l,∀u v,cf t u<0->cf u v<0->cf t v<0)->fy l m<0->fy m k<0->fy l k<0
 |[],[],_,_,h,_=>by simp[fy]at h|[],_::_,[],_,_,h=>by simp[fy]at h|[],_::_,_::_,_,_,_=>by simp[fy]|_::_,[],_,_,h,_=>by simp[fy]at h|_::_,_::_,[],_,_,h=>by simp[fy]at h|t::r,u::v,w::x,f,h1,U=>by
  simp only[fy]at h1 U ⊢;by_cases e:cf t u=0
  ·have:=vL _ _ e;subst this;rw[if_pos e]at h1;by_cases c:cf t w=0
   ·rw[if_pos c]at U ⊢;exact abT r v x (fun y g=>f y (by simp[g])) h1 U
   ·rw[if_neg c]at U ⊢;exact U
  ·rw[if_neg e]at h1;by_cases c:cf u w=0
   ·have:=vL _ _ c;subst this;rw[if_neg e];exact h1
   ·rw[if_neg c]at U;have:=f t (by simp) u w h1 U;rw[if_neg (by omega)];exact this
theorem Eh:∀t u v:I,cf t u<0->cf u v<0->cf t v<0:=I.ind fun t ih u v g U=>by
 have cg:=abT t.args u.args v.args ih;have i:fy t.args u.args<0->u.args=v.args->fy t.args v.args<0:=fun h e=>e▸h;have j:fy t.args u.args=0->t.args=u.args:=H0 _ _ fun x _ y=>vL x y;have k:fy u.args v.args=0->u.args=v.args:=H0 _ _ fun x _ y=>vL x y;have fl:=Ef t.name u.name v.name;have c:=mP (a:=t.name) (b:=u.name);have f:=mP (a:=u.name) (b:=v.name);have m:=mP (a:=t.name) (b:=v.name);have o:dk t.name u.name=0->dk t.name v.name=dk u.name v.name:=fun h=>by rw[c.1 h]
 have q:dk u.name v.name=0->dk t.name v.name=dk t.name u.name:=fun h=>by rw[f.1 h]
 rw[D2,aw8]at g U ⊢;clear j k i c f m;omega
section
set_option linter.unusedSectionVars false
variable {α:Type}[Inhabited α]
theorem xv(l:List α)(k:Nat):l[k]! = (l[k]?).getD default:=by simp[List.getElem!_eq_getElem?_getD]
def lJ(l:List α)(i j:Nat):List α:=(l.set i l[j]!).set j l[i]!
theorem Ei(l:List α)(i j:Nat):(lJ l i j).length=l.length:=by simp[lJ]
variable {l:List α}{i j:Nat}
theorem Ej(ak:i<l.length)(c:j<l.length)(k:Nat):(lJ l i j)[k]! = if k=j then l[i]! else if k=i then l[j]! else l[k]!:=by
 simp only[lJ,xv _ k,List.getElem?_set,List.length_set];by_cases e:k=j
 ·subst e;simp[c]
 ·grind
structure dW(l cd:List α)(a b:Nat):Prop where
 len:cd.length=l.length
 out:∀k,¬(a<=k/\k<b)->cd[k]! = l[k]!
 BC:∀k,a<=k->k<b->∃k',a<=k'/\k'<b/\cd[k]! = l[k']!
 H3:∀k,a<=k->k<b->∃k',a<=k'/\k'<b/\l[k]! = cd[k']!
theorem dW.refl(l:List α)(a b:Nat):dW l l a b:=⟨rfl,fun _ _=>rfl,fun k c U=>⟨k,c,U,rfl⟩,fun k c U=>⟨k,c,U,rfl⟩⟩
variable {m:List α}{a b:Nat}
theorem dW.trans{n:List α}(c:dW l m a b)(U:dW m n a b):dW l n a b:=by
 refine⟨U.len.trans c.len,fun k h=>(U.out k h).trans (c.out k h),fun k aE ae=>?_,fun k aE ae=>?_⟩
 ·obtain⟨e,f,g,o⟩:=U.BC k aE ae;obtain⟨q,r,u,w⟩:=c.BC e f g;exact⟨q,r,u,o.trans w⟩
 ·obtain⟨e,f,g,o⟩:=c.H3 k aE ae;obtain⟨q,r,u,w⟩:=U.H3 e f g;exact⟨q,r,u,o.trans w⟩
variable {ch bU:Nat}
theorem dW.mono(h:dW l m a b)(o:ch<=a)(U:b<=bU):dW l m ch bU:=by
 refine⟨h.len,fun k hk=>h.out k (by omega),fun k aE ae=>?_,fun k aE ae=>?_⟩
 ·by_cases hk:a<=k/\k<b
  ·obtain⟨c,f,g,e⟩:=h.BC k hk.1 hk.2;exact⟨c,by omega,by omega,e⟩
  ·exact⟨k,aE,ae,h.out k hk⟩
 ·by_cases hk:a<=k/\k<b
  ·obtain⟨c,f,g,e⟩:=h.H3 k hk.1 hk.2;exact⟨c,by omega,by omega,e⟩
  ·exact⟨k,aE,ae,(h.out k hk).symm⟩
theorem dW.lJ(e:a<=i)(U:i<b)(f:a<=j)(g:j<b)(r:b<=l.length):dW l (lJ l i j) a b:=by
 have c:=Ej (l:=l) (i:=i) (j:=j) (by omega) (by omega);refine⟨Ei _ _ _,fun k hk=>?_,fun k aE ae=>?_,fun k aE ae=>?_⟩
 ·rw[c,if_neg (by omega),if_neg (by omega)]
 ·rw[c];split
  ·exact⟨i,e,U,rfl⟩
  ·split
   ·exact⟨j,f,g,rfl⟩
   ·exact⟨k,aE,ae,rfl⟩
 ·by_cases o:k=i
  ·exact⟨j,f,g,by rw[c,if_pos rfl,o]⟩
  ·by_cases q:k=j
   ·exact⟨i,e,U,by rw[c];split<;>rename_i h<;>simp_all⟩
   ·exact⟨k,aE,ae,by rw[c,if_neg q,if_neg o]⟩
theorem aw9(c:l.length=m.length)(U:∀k:Nat,l[k]! = m[k]!):l=m:=by
 refine List.ext_getElem c fun i a b=>?_;have:=U i;simpa[a,b]using this
structure sN(c:α->α->Int):Prop where
 neg:∀x y,c y x = - c x y
 axa:∀x y z,c x y<0->c y z<0->c x z<0
 zero:∀x y,c x y=0->x=y
variable {c:α->α->Int}
theorem sN.le(T:sN c){x y z:α}(e:c x y<=0)(U:c y z<=0):c x z<=0:=by
 by_cases f:c x y=0
 ·rw[T.zero _ _ f];exact U
 ·by_cases g:c y z=0
  ·rw[<-T.zero _ _ g];exact e
  ·have:=T.axa x y z (by omega) (by omega);omega
theorem sN.refl(T:sN c)(x:α):c x x=0:=by have:=T.neg x x;omega
variable {c:α->α->Int}
def eC(c:α->α->Int)(l:List α)(a b:Nat):Prop:=∀p q,a<=p->p<q->q<b->c l[p]! l[q]!<=0
theorem eC.congr(h:eC c l a b)(he:∀k,a<=k->k<b->m[k]! = l[k]!):eC c m a b:=fun p q e U f=>by
 rw[he p e (by omega),he q (by omega) f];exact h p q e U f
theorem eC.sub(h:eC c l a b)(f:a<=ch)(U:bU<=b):eC c l ch bU:=fun p q g e k=>h p q (by omega) e (by omega)
theorem eC.out{x y:Nat}(h:eC c l a b)(az:dW l m x y)(hd:b<=x\/y<=a):eC c m a b:=h.congr fun k e U=>az.out k (by omega)
variable {m:Nat}
theorem eC.join(k:eC c l a m)(U:eC c l m b)(h:∀p q,a<=p->p<m->m<=q->q<b->c l[p]! l[q]!<=0):eC c l a b:=fun p q e f g=>by
 by_cases o:q<m
 ·exact k p q e f o
 ·by_cases r:p<m
  ·exact h p q e r (by omega) g
  ·exact U p q (by omega) f g
def Ins(c:α->α->Int)(l:List α)(a i j:Nat):Prop:=∀p q,a<=p->p<q->q<=i->q≠j->c l[p]! l[q]!<=0
theorem Ins.start(h:eC c l a i):Ins c l a i i:=fun p q e U f g=>h p q e U (by omega)
theorem Ins.step(h:Ins c l a i j)(C:a<j)(U:j<=i)(D:i<l.length)(u:c l[j]! l[j-1]!<=0):Ins c (lJ l j (j-1)) a i (j-1):=fun p q k w g z=>by
 have o:=Ej (l:=l) (i:=j) (j:=j-1) (by omega) (by omega);rw[o p,o q,if_neg z];by_cases e:q=j
 ·rw[if_pos e];by_cases f:p=j-1
  ·rw[if_pos f];exact u
  ·rw[if_neg f,if_neg (by omega)];exact h p (j-1) k (by omega) (by omega) (by omega)
 ·rw[if_neg e];by_cases f:p=j-1
  ·rw[if_pos f];exact h j q (by omega) (by omega) g e
  ·rw[if_neg f];by_cases r:p=j
   ·rw[if_pos r];exact h (j-1) q (by omega) (by omega) g e
   ·rw[if_neg r];exact h p q k w g e
theorem Ins.abU(h:Ins c l a i a):eC c l a (i+1):=fun p q e U f=>h p q e U (by omega) (by omega)
theorem Ins.abV(T:sN c)(h:Ins c l a i j)(r:a<j)(u:¬c l[j]! l[j-1]! < 0):eC c l a (i+1):=fun p q f k w=>by
 have g:c l[j-1]! l[j]!<=0:=by have:=T.neg l[j]! l[j-1]!;omega
 by_cases e:q=j
 ·subst e;by_cases o:p=q-1
  ·subst o;exact g
  ·exact T.le (h p (q-1) f (by omega) (by omega) (by omega)) g
 ·exact h p q f k (by omega) e
def rL(l:List α)(a b:Nat):Nat->List α
 |0=>l|i+1=>lJ (rL l a b i) (a+i) (b+i)
theorem zj(l:List α)(a b:Nat):∀n,(rL l a b n).length=l.length
 |0=>rfl|n+1=>by rw[rL,Ei,zj l a b n]
theorem H4(l:List α)(a b:Nat):∀n,a+n<=b->b+n<=l.length->∀k,(rL l a b n)[k]! = if a<=k/\k<a+n then l[b+(k-a)]! else if b<=k/\k<b+n then l[a+(k-b)]! else l[k]!
 |0,_,_,k=>by
  show l[k]! = _
  ((repeat' split)<;>first|rfl|(exfalso;omega)|(congr 1<;>omega))
 |n+1,h1,U,k=>by
  have ih:=H4 l a b n (by omega) (by omega);rw[rL,Ej (by rw[zj];omega) (by rw[zj];omega),ih k,ih (a+n),ih (b+n)]
  ((repeat' split)<;>first|rfl|(exfalso;omega)|(congr 1<;>omega))
def mU(l:List α)(a m b k:Nat):α:=if a<=k/\k<a+(b-m)then l[m+(k-a)]! else if a+(b-m)<=k/\k<b then l[k-(b-m)]! else l[k]!
def qK(jO l:List α)(a m b i j:Nat):Prop:=∀k,mU jO a m b k=if m-i<=k/\k<m-i+j then l[m+(k-(m-i))]! else if m-i+j<=k/\k<m+j then l[k-j]! else l[k]!
theorem qK.start(e:a<=m)(U:m<=b):qK l l a m b (m-a) (b-m):=fun k=>by
 unfold mU;rw[show m-(m-a)=a by omega,show m+(b-m)=b by omega]
variable {jO:List α}
theorem qK.left(h:qK jO l a m b i j)(g:j<i)(U:i<=m)(f:m+j<=l.length):qK jO (rL l (m-i) m j) a m b (i-j) j:=fun k=>by
 have e:=H4 l (m-i) m j (by omega) f;rw[h k,e k,e (m+(k-(m-(i-j)))),e (k-j)]
 ((repeat' split)<;>first|rfl|(exfalso;omega)|(congr 1<;>omega))
theorem qK.right(h:qK jO l a m b i j)(f:i<j)(U:i<=m)(g:m+j<=l.length):qK jO (rL l (m-i) (m+j-i) i) a m b i (j-i):=fun k=>by
 have e:=H4 l (m-i) (m+j-i) i (by omega) (by omega);rw[h k,e k,e (m+(k-(m-i))),e (k-(j-i))]
 ((repeat' split)<;>first|rfl|(exfalso;omega)|(congr 1<;>omega))
theorem qK.stop(h:qK jO l a m b i i)(U:i<=m)(e:m+i<=l.length)(k:Nat):(rL l (m-i) m i)[k]! = mU jO a m b k:=by
 rw[h k,H4 l (m-i) m i (by omega) e]
 ((repeat' split)<;>first|rfl|(exfalso;omega)|(congr 1<;>omega))
variable {cd:List α}
theorem axb(g:a<=m)(U:m<=b)(f:cd.length=l.length)(h:∀k,cd[k]! = mU l a m b k):dW l cd a b:=by
 refine⟨f,fun k hk=>?_,fun k aE ae=>?_,fun k aE ae=>?_⟩
 ·rw[h,mU,if_neg (by omega),if_neg (by omega)]
 ·rw[h,mU];split
  ·exact⟨_,by omega,by omega,rfl⟩
  ·grind
 ·by_cases e:k<m
  ·refine⟨k+(b-m),by omega,by omega,?_⟩;rw[h,mU,if_neg (by omega),if_pos (by omega)];congr 1;omega
  ·refine⟨a+(k-m),by omega,by omega,?_⟩;rw[h,mU,if_pos (by omega)];congr 1;omega
variable {cx:List α}{s mid:Nat}
theorem axc(T:sN c)(R:a<m)(U:m<b)(S:mid=(a+b) / 2)(C:eC c l a m)(D:eC c l m b)
  (V:a<=s)(W:s<=m)(X:s<=mid)(Y:mid+m<=s+b)
  (cq:s=a\/mid+m=s+b\/¬c l[mid+m-1-(s-1)]! l[s-1]! < 0)(fl:s=m\/s=mid\/c l[mid+m-1-s]! l[s]! < 0)(u:∀k,cx[k]! = mU l s m (mid+m-s) k) :
  eC c cx a s/\eC c cx s mid/\eC c cx mid (mid+m-s)/\eC c cx (mid+m-s) b/\∀p q,a<=p->p<mid->mid<=q->q<b->c cx[p]! cx[q]!<=0:=by
 have E:∀k,k<s->cx[k]! = l[k]!:=fun k h=>by rw[u,mU,if_neg (by omega),if_neg (by omega)]
 have F:∀k,s<=k->k<mid->cx[k]! = l[m+(k-s)]!:=fun k h O=>by rw[u,mU,if_pos (by omega)]
 have w:∀k,mid<=k->k<mid+m-s->cx[k]! = l[k-(mid-s)]!:=fun k h O=>by
  rw[u,mU,if_neg (by omega),if_pos (by omega)];congr 1;omega
 have G:∀k,mid+m-s<=k->cx[k]! = l[k]!:=fun k h=>by rw[u,mU,if_neg (by omega),if_neg (by omega)]
 refine⟨fun p q g o f=>?_,fun p q g o f=>?_,fun p q g o f=>?_,fun p q g o f=>?_,fun p q g o f P=>?_⟩
 ·rw[E p (by omega),E q f];exact C p q g o (by omega)
 ·rw[F p g (by omega),F q (by omega) f];exact D _ _ (by omega) (by omega) (by omega)
 ·rw[w p g (by omega),w q (by omega) f];exact C _ _ (by omega) (by omega) (by omega)
 ·rw[G p g,G q (by omega)];exact D p q (by omega) o f
 ·have J:∀{p q:Nat},a<=p->p<=q->q<m->c l[p]! l[q]!<=0:=fun{p q}x y z=>by
   by_cases e:p=q
   ·subst e;rw[T.refl];exact aIB 0
   ·exact C p q x (by omega) z
  have r:∀{p q:Nat},m<=p->p<=q->q<b->c l[p]! l[q]!<=0:=fun{p q}x y z=>by
   by_cases e:p=q
   ·subst e;rw[T.refl];exact aIB 0
   ·exact D p q x (by omega) z
  by_cases Q:p<s
  ·rw[E p Q];by_cases K:q<mid+m-s
   ·rw[w q f K];exact J (by omega) (by omega) (by omega)
   ·rw[G q (by omega)];have L:c l[s-1]! l[mid+m-1-(s-1)]!<=0:=by
     rcases cq with h|h|h
     ·omega
     ·omega
     ·have:=T.neg l[s-1]! l[mid+m-1-(s-1)]!;omega
    exact T.le (J (by omega) (by omega) (by omega)) (T.le L (r (by omega) (by omega) P))
  ·rw[F p (by omega) o];by_cases K:q<mid+m-s
   ·rw[w q f K];have L:c l[mid+m-1-s]! l[s]!<=0:=by omega
    exact T.le (r (by omega) (by omega) (by omega)) (T.le L (J (by omega) (by omega) (by omega)))
   ·grind
theorem axd{e f:List α}(h:dW cx e a mid)(U:dW e f mid b)(o:eC c e a mid)(r:eC c f mid b)
  (u:∀p q,a<=p->p<mid->mid<=q->q<b->c cx[p]! cx[q]!<=0):eC c f a b:=by
 refine eC.join (o.out U (.inl (LW _))) r fun p q w z C D=>?_;rw[U.out p (by omega)];obtain⟨g,E,F,G⟩:=h.BC p w z;obtain⟨k,J,K,L⟩:=U.BC q C D;rw[G,L,h.out k (by omega)];exact u g k E F J K
def tQ(l:List α)(a:Nat):Nat->List α
 |0=>l|i+1=>lJ (tQ l a i) (a+i) (a+i+1)
theorem Ek(l:List α)(a:Nat):∀n,(tQ l a n).length=l.length
 |0=>rfl|n+1=>by rw[tQ,Ei,Ek l a n]
theorem abX(l:List α)(a:Nat):∀n,a+n<l.length->∀k,(tQ l a n)[k]! = if a<=k/\k<a+n then l[k+1]! else if k=a+n then l[a]! else l[k]!
 |0,_,k=>by
  show l[k]! = _
  ((repeat' split)<;>first|rfl|(exfalso;omega)|(congr 1<;>omega))
 |n+1,h,k=>by
  have ih:=abX l a n (by omega);rw[tQ,Ej (by rw[Ek];omega) (by rw[Ek];omega),ih k,ih (a+n),ih (a+n+1)]
  ((repeat' split)<;>first|rfl|(exfalso;omega)|(congr 1<;>omega))
theorem abY :∀n,a+n<b->b<=l.length->dW l (tQ l a n) a b
 |0,_,_=>dW.refl _ _ _|n+1,h,U=>(abY n (by omega) U).trans (dW.lJ (by omega) (by omega) (by omega) (by omega) (by rw[Ek];exact U))
def tR(l:List α)(m:Nat):Nat->List α
 |0=>l|i+1=>lJ (tR l m i) (m-i) (m-i-1)
theorem El(l:List α)(m:Nat):∀n,(tR l m n).length=l.length
 |0=>rfl|n+1=>by rw[tR,Ei,El l m n]
theorem abZ(l:List α)(m:Nat):∀n,n<=m->m<l.length->∀k,(tR l m n)[k]! = if m-n<k/\k<=m then l[k-1]! else if k=m-n then l[m]! else l[k]!
 |0,_,_,k=>by
  show l[k]! = _
  ((repeat' split)<;>first|rfl|(exfalso;omega)|(congr 1<;>omega))
 |n+1,h,U,k=>by
  have ih:=abZ l m n (by omega) U;rw[tR,Ej (by rw[El];omega) (by rw[El];omega),ih k,ih (m-n),ih (m-n-1)]
  ((repeat' split)<;>first|rfl|(exfalso;omega)|(congr 1<;>omega))
theorem ab0 :∀n,a+n<=m->m<b->b<=l.length->dW l (tR l m n) a b
 |0,_,_,_=>dW.refl _ _ _|n+1,h,h1,U=>(ab0 n (by omega) h1 U).trans (dW.lJ (by omega) (by omega) (by omega) (by omega) (by rw[El];exact U))
theorem axf(T:sN c)(r:a+1<=i)(U:i<=b)(u:b<=l.length)(az:eC c l (a+1) b)(cq:i=a+1\/c l[i-1]! l[a]! < 0)(fl:i=b\/¬c l[i]! l[a]! < 0)(w:a<b) :
  eC c (tQ l a (i-1-a)) a b:=fun p q C D k=>by
 have f:=abX l a (i-1-a) (by omega);have g:∀{p q:Nat},a+1<=p->p<=q->q<b->c l[p]! l[q]!<=0:=fun{p q}x y z=>by
  by_cases e:p=q
  ·subst e;rw[T.refl];exact aIB 0
  ·exact az p q x (by omega) z
 rw[f p,f q];by_cases E:q<i-1
 ·grind
 ·by_cases o:q=i-1
  ·subst o;rw[if_pos (by omega),if_neg (by omega),if_pos (by omega)];rcases cq with h|h
   ·omega
   ·exact T.le (g (by omega) (show p+1<=i-1 by omega) (by omega)) (by omega)
  ·rw[if_neg (c:=a<=q/\q<a+(i-1-a)) (by omega),if_neg (c:=q=a+(i-1-a)) (by omega)];by_cases F:p<i-1
   ·grind
   ·by_cases G:p=i-1
    ·rw[if_neg (by omega),if_pos (by omega)];rcases fl with h|h
     ·omega
     ·exact T.le (by have:=T.neg l[i]! l[a]!;omega) (g (by omega) (show i<=q by omega) k)
    ·grind
theorem axg(T:sN c)(u:a<=i)(U:i<=m)(k:m<l.length)(az:eC c l a m)(cq:i=a\/¬c l[m]! l[i-1]! < 0)(fl:i=m\/c l[m]! l[i]! < 0) :
  eC c (tR l m (m-i)) a (m+1):=fun p q o w C=>by
 have f:=abZ l m (m-i) (by omega) k;have g:∀{p q:Nat},a<=p->p<=q->q<m->c l[p]! l[q]!<=0:=fun{p q}x y z=>by
  by_cases e:p=q
  ·subst e;rw[T.refl];exact aIB 0
  ·exact az p q x (by omega) z
 rw[f p,f q];by_cases D:q<i
 ·grind
 ·by_cases r:q=i
  ·subst r;rw[if_neg (c:=m-(m-q)<p/\p<=m) (by omega),if_neg (c:=p=m-(m-q)) (by omega),if_neg (by omega),if_pos (by omega)];rcases cq with h|h
   ·omega
   ·exact T.le (g o (show p<=q-1 by omega) (by omega)) (by have:=T.neg l[m]! l[q-1]!;omega)
  ·rw[if_pos (c:=m-(m-i)<q/\q<=m) (by omega)];by_cases E:p<i
   ·grind
   ·by_cases F:p=i
    ·rw[if_neg (by omega),if_pos (by omega)];rcases fl with h|h
     ·omega
     ·exact T.le (show c l[m]! l[i]!<=0 by omega) (g (by omega) (by omega) (by omega))
    ·grind
def qL(c:α->α->Int)(l:List α)(n s u:Nat):Prop:=∀w p q,u<=w->s*w<=p->p<q->q<s*(w+1)->q<n->c l[p]! l[q]!<=0
def zk(c:α->α->Int)(l:List α)(s u:Nat):Prop:=∀w p q,w<u->s*w<=p->p<q->q<s*(w+1)->c l[p]! l[q]!<=0
variable {u:Nat}
theorem zk.step(h:zk c l s u)(aE:a=s*u)(ae:b=s*(u+1))(az:dW l cd a b)(g:eC c cd a b):zk c cd s (u+1):=fun w p q r k f o=>by
 by_cases e:w=u
 ·subst e;exact g p q (by omega) f (by omega)
 ·have:s*(w+1)<=s*u:=aID _ (by omega);rw[az.out p (by omega),az.out q (by omega)];exact h w p q (by omega) k f o
theorem zk.last(h:zk c l s u)(aE:a=s*u)(r:n<=a+s)(az:dW l cd a n)(g:eC c cd a n):qL c cd n s 0:=fun w p q z k f o C=>by
 by_cases e:w=u
 ·subst e;exact g p q (by omega) f (by omega)
 ·by_cases D:w<u
  ·have:s*(w+1)<=s*u:=aID _ (by omega);rw[az.out p (by omega),az.out q (by omega)];exact h w p q (by omega) k f o
  ·have:s*(u+1)<=s*w:=aID _ (by omega);rw[aHW]at this;omega
theorem qL.ab1(h:qL c l n s (2*u))(aE:a=2*s*u)(g:a+s<=n):eC c l a (a+s):=fun p q k f o=>by
 have e:s*(2*u)=2*s*u:=by rw[<-Nat.mul_assoc,Nat.mul_comm s 2]
 exact h (2*u) p q (LW _) (by omega) f (by rw[aHW];omega) (by omega)
theorem qL.ab2(h:qL c l n s (2*u))(aE:a=2*s*u)(ae:b<=a+2*s)(g:b<=n):eC c l (a+s) b:=fun p q k f o=>by
 have e:s*(2*u)=2*s*u:=by rw[<-Nat.mul_assoc,Nat.mul_comm s 2]
 exact h (2*u+1) p q (by omega) (by rw[aHW];omega) f (by rw[aHW,aHW];omega) (by omega)
theorem qL.step(h:qL c l n s (2*u))(aE:a=2*s*u)(ae:b=a+2*s)(az:dW l cd a b):qL c cd n s (2*(u+1)):=fun w p q z f g k o=>by
 have r:s*(2*u+2)<=s*w:=aID _ (by omega);have e:s*(2*u)=2*s*u:=by rw[<-Nat.mul_assoc,Nat.mul_comm s 2]
 rw[aHW]at r;rw[az.out p (by omega),az.out q (by omega)];exact h w p q (by omega) f g k o
theorem qL.full(h:qL c l n s 0)(g:n<=s):eC c l 0 n:=fun p q _ e f=>h 0 p q (by omega) (by omega) e (by omega) f
end
open Enc (enc)
def cM:List I->List AV
 |[]=>[]|t::r=>.str t.name::.list none 2 (t.args.map I.enc)::cM r
theorem kC:∀l:List I,(cM l).length=l.length*2
 |[]=>rfl|t::r=>by simp only[cM,aHV,kC r];omega
theorem ab3:∀{l:List I}{i:Nat},i<l.length->((cM l).drop (i*2)).take 2=[.str l[i]!.name,.list none 2 (l[i]!.args.map I.enc)]
 |[],i,h=>by simp at h|t::r,0,_=>by simp[cM]|t::r,i+1,h=>by
  rw[show(i+1)*2=i*2+2 by omega];simp only[cM,List.drop_succ_cons];rw[ab3 (by simpa using h)];simp
theorem ab4:∀{l:List I}{i:Nat}{x:I},i<l.length->setCells (cM l) (i*2) [.str x.name,.list none 2 (x.args.map I.enc)]=cM (l.set i x)
 |[],i,x,h=>by simp at h|t::r,0,x,_=>by simp[cM,setCells]|t::r,i+1,x,h=>by
  have:=ab4 (l:=r) (i:=i) (x:=x) (by simpa using h);rw[show(i+1)*2=i*2+2 by omega];simp only[setCells,cM,List.set_cons_succ]at this ⊢;rw[this]
def fF(e:Nat)(H:List ax)(id:Nat)(l:List I):List ax:=H.set id (.buf e (cM l))
variable {l:List I}
theorem ab5{e:Nat}(h:id<H.length):(fF e H id l)[id]?=some (.buf e (cM l)):=by simp[fF,h]
variable {i:Nat}
theorem axh{e:Nat}(h:i<l.length):vH 2 (i*2) (some (.buf e (cM l)))=some [.str l[i]!.name,.list none 2 (l[i]!.args.map I.enc)]:=by
 rw[Bu,ab3 h,kC,if_pos (by omega)]
variable {E:Env}
theorem ab6{e:Nat}{x:I}(h:i<l.length) :
  sL E (fF e H id l) id (i*2) [.str x.name,.list none 2 (x.args.map I.enc)] (some (.buf e (cM l)))=some ⟨E,fF e H id (l.set i x)⟩:=by
 rw[D4,kC,if_pos (by simp only[aHV,List.length_nil];omega),ab4 h];simp[fF]
theorem axi{e:Nat}{j:Nat}{x y:I}(h:i<l.length) :
  sL E (fF e H id (l.set j y)) id (i*2) [.str x.name,.list none 2 (x.args.map I.enc)] (some (.buf e (cM (l.set j y))))=some ⟨E,fF e H id ((l.set j y).set i x)⟩ :=
 ab6 (by rw[List.length_set];exact h)
theorem axj(i j:Nat):((i:Int)+(j:Int)) / 2=(((i+j) / 2:Nat):Int):=by omega
theorem axk{n:Int}(h:0<=n/\n<18446744073709551616):IntKind.u64.wrap n=n:=by
 simp only[IntKind.wrap,IntKind.signed,IntKind.bits];simp;omega
theorem axl(a b:Nat):((a:Int)+(b:Int)).toNat=a+b:=by omega
theorem axm(a:Nat):((a:Int)+1).toNat=a+1:=by omega
theorem axn(a:Nat):((a:Int)-1).toNat=a-1:=by omega
attribute [go_sem] axl axm axn
attribute [go_sem 3000] axh ab6
attribute [go_sem 3100] axi
attribute [go_sem ↓ 4000] abg abh
attribute [go_sem] ab5 axk axj
section
variable {α:Type}[Inhabited α]{c:α->α->Int}
variable {a b:Nat}
theorem ab7(T:sN c)(ak:i<b):∀j(l:List α),a<=j->j<=i->b<=l.length->Ins c l a i j->∃f,dW l f a b/\eC c f a (i+1)
 |j,l,h1,U,g,h=>by
  by_cases e:a<j
  ·by_cases k:c l[j]! l[j-1]! < 0
   ·obtain⟨f,m,o⟩:=ab7 T ak (j-1) (lJ l j (j-1)) (by omega) (by omega) (by rw[Ei];exact g) (h.step e U (by omega) (by omega));exact⟨f,(dW.lJ (by omega) (by omega) (by omega) (by omega) g).trans m,o⟩
   ·exact⟨l,dW.refl _ _ _,h.abV T e k⟩
  ·obtain rfl:j=a:=by omega
   exact⟨l,dW.refl _ _ _,h.abU⟩
 termination_by j=>j
theorem sO(T:sN c)(l:List α)(ae:b<=l.length):∃f,dW l f a b/\eC c f a b:=by
 have key:∀i,i<=b->a<=i->∃f,dW l f a b/\eC c f a i:=fun i=>by
  induction i with
  |zero=>exact fun _ h=>⟨l,dW.refl _ _ _,fun p q g U j=>by omega⟩|succ i ih =>
   intro g U;by_cases e:a<=i
   ·obtain⟨m,k,o⟩:=ih (by omega) e;obtain⟨r,u,w⟩:=ab7 T (show i<b by omega) i m e (LW _) (by rw[k.len];exact ae) (Ins.start o);exact⟨r,k.trans u,w⟩
   ·exact⟨l,dW.refl _ _ _,fun p q g U j=>by omega⟩
 by_cases h:a<=b
 ·exact key b (LW _) h
 ·exact⟨l,dW.refl _ _ _,fun p q g U j=>by omega⟩
def tS(l:List α)(a m b:Nat):List α:=(List.range l.length).map (mU l a m b)
theorem N4(l:List α)(a m b:Nat):(tS l a m b).length=l.length:=by simp[tS]
variable {m:Nat}
theorem N5(l:List α)(o:a<=m)(U:m<=b)(ae:b<=l.length)(k:Nat):(tS l a m b)[k]! = mU l a m b k:=by
 by_cases h:k<l.length
 ·rw[xv];simp[tS,h]
 ·have e:(tS l a m b)[k]?=none:=List.getElem?_eq_none (by rw[N4];omega);have f:l[k]?=none:=List.getElem?_eq_none (by omega);have g:¬(a<=k/\k<a+(b-m)):=by omega
  have j:¬(a+(b-m)<=k/\k<b):=by omega
  rw[mU,if_neg g,if_neg j,xv,xv,e,f]
theorem axo{e l:List α}(f:qK e l a m b i i)(U:i<=m)(g:m+i<=l.length)(aE:a<=m)(hm:m<=b)(ae:b<=e.length)(h:l.length=e.length):rL l (m-i) m i=tS e a m b :=
 aw9 (by rw[zj,N4,h]) fun k=>by rw[f.stop U g k,N5 e aE hm ae]
end
theorem sP{P:Program}{gl:cp}{f e:Nat}{j:List ax}{Q:List I->Prop}{K:AV->List ax->Prop}{tg:aM K}
  (h:bn P gl f vs H fun r H'=>r=.a8 []/\∃c,H'=fF e j id c/\Q c)(g:∃c,Q c)(hk:∀c,Q c->K (.a8 []) (fF e j id c)):ma P gl f vs H K tg :=
 iW ⟨h,by obtain⟨c,k⟩:=g;exact⟨_,_,rfl,c,rfl,k⟩⟩ fun r H' ⟨m,c,U,o⟩=>by rw[m,U];exact hk c o
theorem o6:sN cf:=⟨Eg,Eh,vL⟩
def jy(l:List I):Prop:=l.Pairwise fun x y=>cf x y<0
theorem H6(h:jy l){j:Nat}(c:i<j)(U:j<l.length):cf l[i]! l[j]! < 0:=by
 have:=List.pairwise_iff_getElem.1 h i j (by omega) U c;simpa[show i<l.length by omega,U]using this
theorem Oa{t:I}(h:jy l):∀f bh ak,ak-bh<=f->bh<=ak->ak<=l.length->(∀k,k<bh->cf l[k]! t<0)->(∀k,ak<=k->k<l.length->¬cf l[k]! t<0) ->
  bh<=mR l t f bh ak/\mR l t f bh ak<=ak/\(∀k,k<mR l t f bh ak->cf l[k]! t<0)/\(∀k,mR l t f bh ak<=k->k<l.length->¬cf l[k]! t<0)
 |0,bh,ak,h1,U,o,g,j=>by
  have:bh=ak:=by omega
  subst this;exact⟨LW _,LW _,g,j⟩
 |f+1,bh,ak,h1,U,o,g,j=>by
  by_cases q:bh<ak
  ·have ah:l[(bh+ak) / 2]?=some l[(bh+ak) / 2]!:=NT (by omega);rw[aa3 l t h1 q ah];split
   ·rename_i c;rw[<-xq l t (f:=f+1) _ _ (by omega),xq l t (f+1) _ _ (by omega),xq l t f _ _ (by omega)];have:=Oa h f ((bh+ak) / 2+1) ak (by omega) (by omega) o (fun k hk=>by
     by_cases e:k=(bh+ak) / 2
     ·rw[e];exact c
     ·have:=H6 h (show k<(bh+ak) / 2 by omega) (by omega);exact Eh _ _ _ this c) j
    exact⟨by omega,this.2.1,this.2.2⟩
   ·rename_i c;rw[xq l t f _ _ (by omega)];have:=Oa h f bh ((bh+ak) / 2) (by omega) (by omega) (by omega) g (fun k hk r=>by
     by_cases e:k=(bh+ak) / 2
     ·rw[e];exact c
     ·have:=H6 h (show(bh+ak) / 2<k by omega) r;intro m;exact c (Eh _ _ _ this m))
    exact⟨this.1,by omega,this.2.2⟩
  ·rw[Br l t (by omega)];have:bh=ak:=by omega
   subst this;exact⟨LW _,LW _,g,j⟩
theorem axv(h:jy l)(t:I):jU l t<=l.length/\(∀k,k<jU l t->cf l[k]! t<0)/\(∀k,jU l t<=k->k<l.length->¬cf l[k]! t<0) :=
 (Oa (t:=t) h l.length 0 l.length (by omega) (by omega) (LW _) (fun k hk=>by omega) (fun k c U=>by omega)).2
theorem axw{x:I}(h:x∈l.take n):∃k,k<n/\k<l.length/\l[k]! = x:=by
 obtain⟨k,hk,rfl⟩:=List.getElem_of_mem h;simp only[List.length_take]at hk;exact⟨k,by omega,by omega,by simp[show k<l.length by omega]⟩
theorem ace{x:I}(h:x∈l.drop n):∃k,n<=k/\k<l.length/\l[k]! = x:=by
 obtain⟨k,hk,rfl⟩:=List.getElem_of_mem h;simp only[List.length_drop]at hk;exact⟨n+k,by omega,by omega,by simp[show n+k<l.length by omega]⟩
theorem axx(h:jy l)(t:I):jy (vC l t)/\∀x,x∈vC l t↔x=t\/x∈l:=by
 obtain⟨G,U,w⟩:=axv h t;have put:(∀k,jU l t<=k->k<l.length->0<cf l[k]! t)->jy (l.take (jU l t)++t::l.drop (jU l t))/\∀x,x∈l.take (jU l t)++t::l.drop (jU l t)↔x=t\/x∈l:=fun C=>by
  refine⟨?_,fun x=>?_⟩
  ·refine List.pairwise_append.2 ⟨h.sublist (List.take_sublist _ _),List.pairwise_cons.2 ⟨fun y c=>?_,h.sublist (List.drop_sublist _ _)⟩,fun y c z m=>?_⟩
   ·obtain⟨k,f,g,rfl⟩:=ace c;have:=C k f g;rw[Eg];omega
   ·obtain⟨k,f,g,rfl⟩:=axw c;rcases I9.1 m with rfl|m
    ·exact U k f
    ·obtain⟨j,J,D,rfl⟩:=ace m;exact H6 h (by omega) D
  ·rw[List.mem_append,I9];have:x∈l↔x∈l.take (jU l t)\/x∈l.drop (jU l t):=by rw[<-List.mem_append,List.take_append_drop]
   rw[this];exact⟨fun h=>by rcases h with h|h|h<;>simp[h],fun h=>by rcases h with h|h|h<;>simp[h]⟩
 unfold vC;split
 ·rename_i x ah;obtain⟨q,o⟩:=List.getElem?_eq_some_iff.1 ah;have ae:l[jU l t]! = x:=by simp[q,o]
  split
  ·rename_i r;have:=vL _ _ r;subst this;exact⟨h,fun y=>⟨fun c=>.inr c,fun c=>by
    rcases c with rfl|c
    ·exact List.mem_of_getElem? ah
    ·exact c⟩⟩
  ·rename_i r;refine put fun k f g=>?_;have F:=w _ (LW _) q;rw[ae]at F;by_cases e:k=jU l t
   ·rw[e,ae];omega
   ·have u:=H6 h (show jU l t<k by omega) g;rw[ae]at u;have K:=Eg t x;have L:=Eh t x l[k]! (by omega) u;have O:=Eg t l[k]!;omega
 ·grind
theorem Ob:∀(r l:List I),jy l->jy (vD l r)/\∀x,x∈vD l r↔x∈r\/x∈l
 |[],l,h=>⟨h,fun x=>by simp[vD]⟩|t::r,l,h=>by
  obtain⟨c,U⟩:=axx h t;obtain⟨e,f⟩:=Ob r (vC l t) c;refine⟨e,fun x=>?_⟩;show x∈vD (vC l t) r↔_;rw[f,U,I9];exact⟨fun h=>by rcases h with h|h|h<;>simp[h],fun h=>by rcases h with(h|h)|h<;>simp[h]⟩
theorem Oc:jy []:=List.Pairwise.nil
theorem H7:∀{l m:List I},jy l->jy m->(∀x,x∈l↔x∈m)->l=m
 |[],[],_,_,_=>rfl|[],y::s,_,_,h=>by have:=(h y).2 (by simp);simp at this|x::r,[],_,_,h=>by have:=(h x).1 (by simp);simp at this|x::r,y::s,h1,U,h=>by
  obtain⟨g,k⟩:=List.pairwise_cons.1 h1;obtain⟨j,o⟩:=List.pairwise_cons.1 U;have e:x=y:=by
   rcases I9.1 ((h x).1 (by simp))with e|e
   ·exact e
   ·rcases I9.1 ((h y).2 (by simp))with f|f
    ·exact f.symm
    ·have q:=j x e;have u:=g y f;have:=Eg x y;omega
  subst e;rw[H7 k o fun z=>⟨fun c=>by
   rcases I9.1 ((h z).1 (by simp[c]))with e|e
   ·subst e;have:=g z c;rw[H2]at this;omega
   ·exact e,fun c=>by
   rcases I9.1 ((h z).2 (by simp[c]))with e|e
   ·subst e;have:=j z c;rw[H2]at this;omega
   ·exact e⟩]
def fu(l:List I):List I:=vD [] l
theorem sR(l:List I):jy (fu l):=(Ob l [] Oc).1
theorem oi(l:List I)(x:I):x∈fu l↔x∈l:=by
 have:=(Ob l [] Oc).2 x;simpa[fu]using this
theorem Od(l:List I):(fu l).length<=l.length:=by have:=aa4 l [];simpa[fu]using this
variable {m:List I}
theorem Oe(c:jy m)(U:∀x,x∈m↔x∈l):m=fu l:=H7 c (sR l) fun x=>(U x).trans (oi l x).symm
theorem axz(h:∀x,x∈l↔x∈m):fu l=fu m:=Oe (sR l) fun x=>(oi l x).trans (h x)
def kY(l:List I):Nat->List I
 |0=>[]|i+1=>if i=0\/cf l[i-1]! l[i]!≠0 then kY l i++[l[i]!]else kY l i
theorem acf(l:List I):∀i,(kY l i).length<=i
 |0=>by simp[kY]|i+1=>by
  have:=acf l i;rw[kY];split
  ·simp;omega
  ·omega
theorem acg(h:eC cf l 0 n):∀i,i<=n->jy (kY l i)/\∀x,x∈kY l i↔∃k,k<i/\l[k]! = x
 |0,_=>⟨Oc,fun x=>by simp[kY]⟩|i+1,ak=>by
  obtain⟨g,U⟩:=acg h i (by omega);rw[kY];split
  ·rename_i f;refine⟨List.pairwise_append.2 ⟨g,List.pairwise_singleton _ _,fun y q z j=>?_⟩,fun x=>?_⟩
   ·simp only[List.mem_singleton]at j;subst j;obtain⟨k,o,rfl⟩:=(U y).1 q;rcases f with f|f
    ·omega
    ·have c:cf l[i-1]! l[i]! < 0:=by
      have:=h (i-1) i (by omega) (by omega) (by omega);omega
     by_cases e:k=i-1
     ·rw[e];exact c
     ·have r:=h k (i-1) (by omega) (by omega) (by omega);by_cases u:cf l[k]! l[i-1]! = 0
      ·rw[vL _ _ u];exact c
      ·exact Eh _ _ _ (by omega) c
   ·grind
  ·rename_i f;refine⟨g,fun x=>(U x).trans ⟨fun⟨k,o,c⟩=>⟨k,by omega,c⟩,fun⟨k,o,c⟩=>?_⟩⟩;by_cases e:k=i
   ·subst e;have r:k≠0:=fun e=>f (.inl e);have w:cf l[k-1]! l[k]! = 0:=by grind
    exact⟨k-1,by omega,by rw[vL _ _ w];exact c⟩
   ·exact⟨k,by omega,c⟩
theorem axA{c:List I}(u:n=l.length)(az:dW l c 0 n)(h:eC cf c 0 n):kY c n=fu l:=by
 obtain⟨j,U⟩:=acg h n (LW _);refine Oe j fun x=>(U x).trans ⟨fun⟨k,o,q⟩=>?_,fun ah=>?_⟩
 ·obtain⟨f,r,g,e⟩:=az.BC k (by omega) o;rw[<-q,e];exact ft (by omega)
 ·obtain⟨k,hk,rfl⟩:=List.getElem_of_mem ah;obtain⟨f,r,g,e⟩:=az.H3 k (by omega) (by omega);exact⟨f,g,by rw[<-e];simp[hk]⟩
open Enc (enc)
theorem ach:∀l:List I,((l.map I.enc).map fun v:AV=>v.cells.map AV.aW).flatten=cM l
 |[]=>rfl|t::r=>by
  simp only[Ja,List.flatten_cons,ach r,I.b8,cM,AV.aW,fM,aB5,List.nil_append]
theorem BE:∀l:List I,(cM l).map AV.aW=cM l
 |[]=>rfl|t::r=>by simp only[cM,Ja,AV.aW,BE r]
theorem Eo:∀l:List I,(cM l).all AV.eb=true
 |[]=>rfl|t::r=>by simp only[cM,ae0,AV.eb,Eo r,aHk]
theorem Ep:∀l:List I,chunk 2 l.length (cM l)=l.map I.enc
 |[]=>rfl|t::r=>by
  simp only[aHV,chunk,cM,Ja,I.pR t];simp only[show ¬(2=1) by decide,if_false,List.take_succ_cons,List.take_zero,List.drop_succ_cons,List.drop_zero,Ep r]
def Er(ne:Bool):AV->Option AV
 |.aV _=>some (.bool (!ne))|.gZ _=>some (.bool ne)|.list _ _ xs=>if xs=[]then none else some (.bool ne)|_=>none
theorem axB(ne:Bool)(z:Nat):Er ne (.aV z)=some (.bool (!ne)):=_root_.id rfl
theorem axC(ne:Bool)(z:Nat):Er ne (.gZ z)=some (.bool ne):=_root_.id rfl
theorem axD(ne:Bool)(o:Option Nat)(z:Nat)(h:l≠[]):Er ne (.list o z (l.map I.enc))=some (.bool ne):=by
 simp only[Er,List.map_eq_nil_iff,if_neg h]
section
variable {P:Program}{gl:cp}{D:bc}
theorem axE{ne:Bool}{x:aI}{s:an}{K:an->Prop}{t:aM K}:bV P gl D s K t (.q7 d ne x)=bK (bg gl s.env x) (fun v=>bK (Er ne v) (fun b=>c7 s d b K ⟨⟩) ⟨⟩) ⟨⟩:=by
 rw[Vf];simp only[aH];cases bg gl s.env x with
 |none=>rfl|some v=>cases v with
  |list o z xs=>cases xs<;>rfl|_=>rfl
def axF(s:an)(d e sz n id:Nat)(ys:List AV):Option ax->Option an
 |some (.buf b3 cs)=>if b3=e/\n*sz<=cs.length/\n+ys.length<=M then
     ({ s with heap:=s.heap.set id .dead++[ax.buf e ((cs.take (n*sz)).map AV.aW++(ys.map fun v:AV=>v.cells.map AV.aW).flatten),.dead] }).put d (.bs s.heap.length 0 (n+ys.length) sz)else none
 |_=>none
def aHf(s:an)(d e sz:Nat)(y:Option (Nat×List AV))(K:an->Prop)(_:aM K):AV->Prop
 |.bs id 0 n nT=>match y with
  |some (dE,ys)=>if nT=sz/\dE=sz then b7 (axF s d e sz n id ys s.heap[id]?) K ⟨⟩else False|none=>False
 |_=>False
end
def o7(l:Env)(H:List ax)(t e sz id n dE:Nat):Option ax->Option an
 |some (.buf b3 cs)=>if b3=e/\dE=sz/\n*sz<=cs.length/\((cs.take (n*sz)).map AV.aW).all AV.eb=true/\n<=M then
    some { env:=(N l).ins t (.v (.list (some e) sz (chunk sz n ((cs.take (n*sz)).map AV.aW)))),heap:=H.set id .dead }else none
 |_=>none
def H8(l:Env)(H:List ax)(t e sz:Nat):Option cW->Option an
 |some (.v (.bs id 0 n dE))=>o7 l H t e sz id n dE H[id]?|some (.v _)=>some ⟨N l,H⟩|_=>none
variable {l:Env}
theorem axG{e:Nat}:AA ⟨N l,H⟩ t e sz=H8 l H t e sz (Env.get l t):=by
 unfold AA H8;simp only[pM];cases Env.get l t with
 |none=>rfl|some c=>cases c with
  |v x=>cases x with
   |bs id o n z=>cases o with
    |zero =>
     simp only[o7];cases H[id]? with
     |none=>rfl|some bA=>cases bA<;>rfl
    |succ o=>rfl
   |_=>rfl
  |_=>rfl
theorem axH(l:Env)(H:List ax)(t e sz id n c:Nat):H8 l H t e sz (some (.v (.bs id 0 n c)))=o7 l H t e sz id n c H[id]?:=_root_.id rfl
theorem axI(l:Env)(H:List ax)(t e sz z:Nat):H8 l H t e sz (some (.v (.aV z)))=some ⟨N l,H⟩:=_root_.id rfl
theorem aci{e:Nat}(h:m.length=n/\n<=M):o7 l H t e 2 id n 2 (some (.buf e (cM m)))=some ⟨N ((t,.v (.list (some e) 2 (m.map I.enc)))::l),H.set id .dead⟩:=by
 obtain⟨h,c⟩:=h;have U:(cM m).take (n*2)=cM m:=List.take_of_length_le (by rw[kC,h];exact LW _);simp only[o7,U,BE,Eo,kC,h,true_and,LW,c,if_true];rw[<-h,Ep];simp only[cj,List.foldr_cons]
theorem I.axJ(t:I):t.enc.pure=true:=by rw[t.pR];rfl
attribute [go_sem] I.axJ
attribute [go_sem 3000] aci
attribute [go_sem ↓ 4000] axE axG
attribute [go_sem] axB axC axD axH axI
theorem bb.split{g:bo}(h:bb g (.list none sz []) v):bb g (.aV sz) v\/bb g (.gZ sz) v:=by
 generalize ah:([]:List AV)=xs at h;cases h with
 |pure _ _ h=>cases h with
  |jD _ base cap ae =>
   cases base with
   |none=>rw[ae rfl];exact .inl (.pure _ _ (.aV _))|some b=>exact .inr (.pure _ _ (.gZ _ _ _))
  |list b off cap _ _ h1 U c=>subst ah;exact .inr (.pure _ _ (.gZ _ _ _))
theorem aF.split{P:Program}{gl:cp}{f:Nat}{r:AV}(g:aF P gl f (.aV sz::xs) r)(U:aF P gl f (.gZ sz::xs) r):aF P gl f (.list none sz []::xs) r:=fun γ w vs c e h=>by
 cases h with
 |cons _ _ _ _ a b =>
  rcases a.split with a|a
  ·exact g γ w _ c e (.cons _ _ _ _ a b)
  ·exact U γ w _ c e (.cons _ _ _ _ a b)
open Enc (enc)
mutual
def qM:I->Nat|.mk _ l=>max l.length (jz l)
def jz:List I->Nat|[]=>0|t::r=>max (qM t) (jz r)
end
theorem xw:∀{l:List I}{t:I},t∈l->qM t<=jz l
 |u::l,t,h=>by
  simp only[jz];rcases I9.1 h with rfl|h
  ·omega
  ·have:=xw h;omega
theorem Es:∀{l:List I}{n:Nat},(∀t∈l,qM t<=n)->jz l<=n
 |[],n,_=>by simp[jz]|t::r,n,h=>by
  simp only[jz];have:=h t (by simp);have:=Es (l:=r) (n:=n) fun u c=>h u (by simp[c]);omega
theorem H9(t:I):qM t=max t.args.length (jz t.args):=by cases t;simp only[qM,I.args]
def kZ(l:List I)(i:Nat):List AV:=cM (l.take i)++(aIC (l.length-i) [AV.str [],AV.aV 2]).flatten
theorem Og(l:List I):kZ l 0=(aIC l.length [AV.str [],AV.aV 2]).flatten:=by simp[kZ,cM]
theorem Oh(l:List I):kZ l l.length=cM l:=by simp[kZ]
theorem Oi(n:Nat):(aIC n [AV.str [],AV.aV 2]).flatten.length=n*2:=by simp_all
theorem axU(l:List I)(h:i<=l.length):(kZ l i).length=l.length*2:=by
 rw[kZ,List.length_append,kC,Oi,List.length_take];omega
theorem Oj:∀l m:List I,cM (l++m)=cM l++cM m
 |[],m=>rfl|t::r,m=>by simp only[aB5,cM,Oj r m]
theorem axV(l:List α)(a b x y:α)(r:List α)(h:n=l.length):(((l++a::b::r).set n x).set (n+1) y)=l++x::y::r:=by simp_all
variable {l:List I}
theorem axW(h:i<l.length):setCells (kZ l i) (i*2) [.str l[i]!.name,.list none 2 (l[i]!.args.map I.enc)]=kZ l (i+1):=by
 simp only[kZ,setCells];rw[show l.length-i=(l.length-(i+1))+1 by omega,List.replicate_succ,List.flatten_cons];simp only[aB5,List.nil_append];rw[axV (cM (l.take i)) _ _ _ _ _ (by rw[kC,List.length_take];omega),bZ h,Oj];simp[cM]
theorem axX{e:Nat}(h:i<l.length) :
  sL E H id (i*2) [.str l[i]!.name,.list none 2 (l[i]!.args.map I.enc)] (some (.buf e (kZ l i)))=some ⟨E,H.set id (.buf e (kZ l (i+1)))⟩:=by
 rw[D4,axU l (by omega),if_pos (by simp only[aHV,List.length_nil];omega),axW h]
theorem axY{l:Env}{e:Nat}(h:n=m.length/\n<=M):o7 l H t e 2 id n 2 (some (.buf e (kZ m n)))=some ⟨N ((t,.v (.list (some e) 2 (m.map I.enc)))::l),H.set id .dead⟩:=by
 obtain⟨rfl,c⟩:=h;rw[Oh,aci ⟨rfl,c⟩]
attribute [go_sem 3000] axX axY
theorem axZ(f:I):(vE f).enc=.agg [.str [116,114,117,101],.list none 2 [f.enc]]:=by rw[vE,I.pR];rfl
theorem ax0(r j:I):(sJ r j).enc=.agg [.str [100,111,101,115],.list none 2 [r.enc,j.enc]]:=by rw[sJ,I.pR];rfl
theorem acm(s j r:List I):vF s j r=fu (s.map vE++List.zipWith sJ r j):=rfl
theorem ax1{r j:List I}(c:i<r.length)(U:i<j.length):(List.zipWith sJ r j)[i]! = sJ r[i]! j[i]!:=by grind
def jA(f:I->Int)(m:Int):List I->Int->Int
 |[],n=>n|t::r,n=>if n>m then n else jA f m r (n+f t)
def jB(m:Int):Nat->I->Int
 |0,_=>m+1|d+1,t=>jA (jB m d) m t.args 1
theorem acq(m:Int)(d:Nat)(t:I):jB m (d+1) t=jA (jB m d) m t.args 1:=rfl
def xx(m:Int):Nat->Int
 |0=>m+1|d+1=>xx m d+m
variable {m:Int}
theorem Ib(h:0<=m/\m<=1000):∀d:Nat,m+1<=xx m d/\xx m d<=((d:Int)+1)*1000+1
 |0=>by simp only[xx];omega|d+1=>by have:=Ib h d;simp only[xx];omega
variable {f:I->Int}
theorem acr{k:Int}(hk:m+1<=k):∀(l:List I)(n:Int),(∀t∈l,1<=f t/\f t<=k)->1<=n->n<=k+m->1<=jA f m l n/\jA f m l n<=k+m
 |[],n,_,h1,U=>⟨h1,U⟩|t::r,n,c,h1,U=>by
  have:=c t (by simp);rw[jA];split
  ·exact⟨h1,U⟩
  ·exact acr hk r _ (fun u e=>c u (by simp[e])) (by omega) (by omega)
theorem Ic(h:0<=m/\m<=1000):∀(d:Nat)(t:I),1<=jB m d t/\jB m d t<=xx m d
 |0,t=>by simp only[jB,xx];omega|d+1,t=>by
  have hk:=(Ib h d).1;exact acr hk t.args 1 (fun u _=>Ic h d u) (aIB _) (by omega)
theorem On :∀(l:List I)(n:Int),(∀t∈l,1<=f t)->0<=n->jA f m l n<=m->n+l.length<=m/\∀t∈l,f t<=m
 |[],n,_,_,h=>by simpa[jA]using h|t::r,n,c,g,h=>by
  have j:=c t (by simp);rw[jA]at h;split at h
  ·omega
  ·have:=On r (n+f t) (fun u e=>c u (by simp[e])) (by omega) h;simp only[aHV,I9,forall_eq_or_imp];exact⟨by omega,by omega,this.2⟩
def jC(m:Int)(t:I):Bool:=decide (jB m m.toNat t<=m)
def oj(m:Int)(l:List I):Bool:=decide ((l.length:Int)<=m)&&l.all (jC m)
variable {n:Int}
theorem acs(h:i<l.length)(c:¬n>m):jA f m (l.drop i) n=jA f m (l.drop (i+1)) (n+f l[i]!):=by
 rw[fY h,jA,if_neg c]
theorem acu(h:i<l.length)(c:n>m):jA f m (l.drop i) n=n:=by
 rw[fY h,jA,if_pos c]
theorem ayb(h:l.length<=i):jA f m (l.drop i) n=n:=by rw[List.drop_eq_nil_of_le h,jA]
end AM
