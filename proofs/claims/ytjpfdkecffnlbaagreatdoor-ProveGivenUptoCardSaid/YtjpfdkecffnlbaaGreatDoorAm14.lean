/- An abstract machine for the program of the seat, and what of the given program it does, part 15 of 17. Conditions: none. -/
import Derived.Test.YtjpfdkecffnlbaaGreatDoorAm13
set_option linter.unusedVariables false
set_option linter.unusedSimpArgs false
/-! Typed data in a canonical form; arguments in other forms of the same data. -/
namespace AM
open Go
mutual
def AV.can:AV→AV
 | .aH sz=>.list none sz []
 | .eE sz=>.list none sz []
 | .list _ sz xs=>.list none sz (nG xs)
 | .agg cs=>.agg (nG cs)
 | .bw cs=>.bw (nG cs)
 | x=>x
def nG:List AV→List AV
 | []=>[]
 | x::r=>x.can::nG r
end
theorem oA (l:List AV):nG l=l.map AV.can:=by
 induction l with
 | nil=>simp only [nG,List.map_nil]
 | cons t r ih=>simp only [nG,List.map_cons,ih]
theorem xp (o:Option Nat) (sz:Nat) (xs:List AV):AV.can (.list o sz xs)=.list none sz (xs.map AV.can):=by simp only [AV.can,oA]
theorem qW (xs:List AV):AV.can (.agg xs)=.agg (xs.map AV.can):=by simp only [AV.can,oA]
theorem amo (xs:List AV):AV.can (.bw xs)=.bw (xs.map AV.can):=by simp only [AV.can,oA]
theorem S5 (x:AV):x.can.cells=x.cells.map AV.can:=by
 cases x<;>simp only [AV.can,AV.cells,oA,List.map_cons,List.map_nil]
theorem S6 {γ:dp} {x:AV} {v:Value} (ai:cp γ x v):cp γ x.can v:=by
 refine cp.rec (motive_1:=fun x v _=>cp γ x.can v) (motive_2:=fun b off cs _=>dt γ b off (cs.map AV.can)) (motive_3:=fun b off sz xs _=>dd γ b off sz (xs.map AV.can))
  (motive_4:=fun cs ws _=>e3 γ (cs.map AV.can) ws) ?_ ?_ ?_ ?_ ?_ ?_ ?_ ?_ ?_ ?_ ?_ ?_ ?_ ?_ ?_ ?_ ?_ ?_ ?_ ai
 ·exact fun b=>by simp only [AV.can];exact .bool b
 ·exact fun k n=>by simp only [AV.can];exact .int k n
 ·exact fun s aS=>by simp only [AV.can];exact .str s aS
 ·simp only [AV.can];exact .dP
 ·simp only [AV.can];exact .eN
 ·simp only [AV.can];exact .gz
 ·simp only [AV.can];exact .gm
 ·exact fun sz=>by simp only [AV.can];exact .fP _ _ _ (by simp)
 ·exact fun b off cs h _=>by simp only [AV.can];exact .cU b off cs h
 ·exact fun sz base cap h=>by rw [xp];exact .fP sz base cap h
 ·exact fun sz base cap=>by simp only [AV.can];exact .fP _ _ _ (by simp)
 ·exact fun b off cap sz xs R lE _ aa=>by
   rw [xp]
   have:=cp.list b off cap sz (xs.map AV.can) (by simpa using R) (by simpa using lE) aa
   simpa using this
 ·exact fun cs ws _ h=>by rw [qW];exact .agg _ ws h
 ·exact fun b off=>.nil b off
 ·exact fun b off c cs v R aa _ _ al aY=>.cons b off _ _ v R aa al aY
 ·exact fun b off sz=>.nil b off sz
 ·exact fun b off sz x xs R _ _ aa al=>.cons b off sz _ _ (by rw [S5,List.length_map];exact R) (by rw [S5];exact aa) al
 ·exact .nil
 ·exact fun c cs v ws R _ _ aa al=>.cons _ _ v ws R aa al
theorem amp {g:a5} {x:AV} {v:Value} (ai:aU g x v):aU g x.can v:=by
 refine aU.rec (motive_1:=fun x v _=>aU g x.can v) (motive_2:=fun cs ws _=>bW g (cs.map AV.can) ws) ?_ ?_ ?_ ?_ ?_ ?_ ?_ ?_ ?_ ?_ ?_ ai
 ·exact fun x v ao=>.pure _ v (S6 ao)
 ·exact fun e sz xs v ao=>.pure _ v (by have:=S6 ao;rwa [xp] at this ⊢)
 ·exact fun id off b ah=>by simp only [AV.can];exact .ptr id off b ah
 ·exact fun id b ah=>by simp only [AV.can];exact .map id b ah
 ·exact fun sz base=>by simp only [AV.can];exact .fb sz base
 ·exact fun id off n sz b k cap R aa al aY=>by simp only [AV.can];exact .bI id off n sz b k cap R aa al aY
 ·exact fun f cs ws h _=>by simp only [AV.can];exact .fn f cs ws h
 ·exact fun cs ws _ R af=>by rw [qW];exact .agg _ ws af R
 ·exact fun cs ws _ af=>by rw [amo];exact .bw _ ws af
 ·exact .nil
 ·exact fun c cs v ws _ _ R aa=>.cons _ _ v ws R aa
theorem amq (x:AV):eZ x x.can:=fun _ _ h=>amp h
theorem amr {x y:AV} (h:x.can=y):eZ x y:=h▸amq x
class Enc (α:Type) where
 sz:Nat
 enc:α→AV
 arg:∀a,(enc a).arg=true
 can:∀a,(enc a).can=enc a
 inj:∀a b,enc a=enc b→a=b
 mH:∀a,(enc a).cells.length=sz
 /-- lists and strings are no longer than M -/
 eG:α→Prop
 kc:∀{γ:dp} {b off:Nat} {a:α},dt γ b off (enc a).cells→eG a
 kd:∀{g:a5} {a:α} {v:Value},aU g (enc a) v→eG a
open Enc (enc)
class cj {α:Type} [Enc α] (x:AV) (a:outParam α):Prop where
 arg:x.arg=true
 can:x.can=enc a
theorem cj.uniq {α:Type} [Enc α] {x:AV} {a b:α} (R:cj x a) (aa:cj x b):a=b:=Enc.inj _ _ (R.can▸aa.can)
theorem cj.qX {α:Type} [Enc α] {x:AV} {a:α} (h:cj x a):eZ x (enc a):=amr h.can
instance cj.enc {α:Type} [Enc α] (a:α):cj (Enc.enc a) a:=⟨Enc.arg a,Enc.can a⟩
theorem ams {x:AV} (h:x.arg=true):x.aL=x:=by
 cases x with
 | list o sz xs=>cases o with
  | none=>rfl
  | some e=>simp [AV.arg,AV.pure,AV.dw] at h
 | _=>rfl
theorem Enc.aL {α:Type} [Enc α] (a:α):(Enc.enc a).aL=Enc.enc a:=ams (Enc.arg a)
theorem amt {x:AV} (h:x.arg=true):x.res=true:=by
 cases x with
 | bw vs=>simp [AV.arg,AV.pure,AV.dw] at h
 | list _ _ _=>rfl
 | _=>simpa [AV.res] using h
theorem Enc.res {α:Type} [Enc α] (a:α):(Enc.enc a).res=true:=amt (Enc.arg a)
theorem Enc.ux {α:Type} [Enc α] (a:α):cc (Enc.enc a):=zu (Enc.arg a)
end AM
/-! Canonical forms of strings, numbers, bools, lists and terms. -/
namespace AM
open Go
open Enc (enc)
theorem S7 {γ:dp} {b off:Nat} {x:AV} (h:dt γ b off [x]):∃v,cp γ x v:=by
 cases h with
 | cons _ _ _ _ v _ _ h _=>exact ⟨v,h⟩
theorem S8 {γ:dp} {s:List UInt8} {v:Value} (h:cp γ (.str s) v):s.length≤M:=by cases h with | str _ h=>exact h
instance:Enc (List UInt8) where
 sz:=1
 enc s:=.str s
 arg _:=rfl
 can _:=by simp only [AV.can]
 inj _ _ h:=by simpa using h
 mH _:=rfl
 eG s:=s.length≤M
 kc h:=by obtain ⟨v,h⟩:=S7 h;exact S8 h
 kd h:=h.zs
instance:Enc Bool where
 sz:=1
 enc b:=.bool b
 arg _:=rfl
 can _:=by simp only [AV.can]
 inj _ _ h:=by simpa using h
 mH _:=rfl
 eG _:=True
 kc _:=trivial
 kd _:=trivial
instance:Enc Int where
 sz:=1
 enc n:=.int .i64 n
 arg _:=rfl
 can _:=by simp only [AV.can]
 inj _ _ h:=by simpa using h
 mH _:=rfl
 eG _:=True
 kc _:=trivial
 kd _:=trivial
instance:Enc Nat where
 sz:=1
 enc n:=.int .i64 n
 arg _:=rfl
 can _:=by simp only [AV.can]
 inj _ _ h:=by simp only [AV.int.injEq,true_and] at h;omega
 mH _:=rfl
 eG _:=True
 kc _:=trivial
 kd _:=trivial
theorem S9 {γ:dp} {α:Type} [Enc α]:∀{l:List α} {b off sz:Nat},dd γ b off sz (l.map Enc.enc)→∀a∈l,Enc.eG a
 | [],_,_,_,_,a,h=>by cases h
 | x::r,b,off,sz,h,a,aZ=>by
  rw [List.map_cons] at h
  cases h with
  | cons _ _ _ _ _ R aa al =>
   rcases List.mem_cons.1 aZ with rfl | aZ
   ·exact Enc.kc aa
   ·exact S9 al a aZ
theorem uU {γ:dp} {α:Type} [Enc α] {l:List α} {v:Value} {sz:Nat} (h:cp γ (.list none sz (l.map Enc.enc)) v):l.length≤M∧∀a∈l,Enc.eG a:=by
 generalize ai:l.map Enc.enc=xs at h
 cases h with
 | fP =>
  have:l=[]:=by simpa using ai
  subst this;exact ⟨by simp,fun a h=>by cases h⟩
 | list _ _ _ _ _ R aa al =>
  subst ai
  exact ⟨by simpa using R,S9 al⟩
instance {α:Type} [Enc α]:Enc (List α) where
 sz:=1
 enc l:=.list none (Enc.sz α) (l.map Enc.enc)
 arg _:=rfl
 can l:=by
  rw [xp,List.map_map]
  congr 1
  exact List.map_congr_left fun a _=>Enc.can a
 inj a b h:=by
  simp only [AV.list.injEq,true_and] at h
  exact List.map_inj_right (fun x y h=>Enc.inj x y h) |>.1 h
 mH _:=rfl
 eG l:=l.length≤M∧∀a∈l,Enc.eG a
 kc h:=by obtain ⟨v,h⟩:=S7 h;exact uU h
 kd h:=by
  cases h with
  | pure _ _ h=>exact uU h
theorem aj.eta (t:aj):aj.mk t.name t.args=t:=by cases t;rfl
theorem aj.uV (t:aj):t.enc=.agg [.str t.name,.list none 2 (t.args.map aj.enc)]:=by rw [t.qO,aj.cells,ln]
mutual
theorem aj.Ta:∀t:aj,t.enc.can=t.enc
 | .mk n l=>by simp only [aj.enc,AV.can,nG,Tb l]
theorem Tb:∀l:List aj,nG (bC l)=bC l
 | []=>by simp only [bC,nG]
 | t::r=>by simp only [bC,nG,aj.Ta t,Tb r]
end
mutual
theorem aj.xq:∀t u:aj,t.enc=u.enc→t=u
 | .mk n l,.mk m k,h=>by
  simp only [aj.enc,AV.agg.injEq,List.cons.injEq,AV.str.injEq,AV.list.injEq,true_and,and_true] at h
  rw [h.1,Tc l k h.2]
theorem Tc:∀l k:List aj,bC l=bC k→l=k
 | [],[],_=>rfl
 | [],_::_,h=>by simp [bC] at h
 | _::_,[],h=>by simp [bC] at h
 | t::r,u::v,h=>by
  simp only [bC,List.cons.injEq] at h
  rw [aj.xq t u h.1,Tc r v h.2]
end
instance:Enc aj where
 sz:=2
 enc t:=t.enc
 arg t:=t.arg
 can t:=t.Ta
 inj t u h:=aj.xq t u h
 mH t:=by rw [t.xa];rfl
 eG t:=t.eG
 kc {γ b off t} h:=by rw [t.xa] at h;exact t.kc h
 kd h:=aj.kd h
theorem dB (t:aj):Enc.enc t=t.enc:=rfl
theorem dC (s:List UInt8):Enc.enc s=AV.str s:=rfl
theorem dD (b:Bool):Enc.enc b=AV.bool b:=rfl
theorem dE (n:Int):Enc.enc n=AV.int .i64 n:=rfl
theorem dF (n:Nat):Enc.enc n=AV.int .i64 n:=rfl
theorem dG (l:List aj):Enc.enc l=AV.list none 2 (l.map aj.enc):=rfl
theorem dH (l:List (List UInt8)):Enc.enc l=AV.list none 1 (l.map AV.str):=rfl
theorem dI (l:List Int):Enc.enc l=AV.list none 1 (l.map (AV.int .i64)):=rfl
theorem pS (l:List aj):cN l=Enc.enc l:=by rw [cN,ln];rfl
theorem aj.cP (t:aj):t.enc.cells=[.str t.name,.list none 2 (t.args.map aj.enc)]:=by rw [t.uV];rfl
theorem aj.amu (t:aj):t.eG↔t.name.length≤M∧t.args.length≤M∧∀u∈t.args,u.eG:=by
 obtain ⟨n,l⟩:=t
 have:∀l,mG l↔∀u∈l,u.eG:=fun l=>by
  induction l with
  | nil=>simp [mG]
  | cons t r ih=>simp [mG,ih]
 simp only [aj.eG,aj.name,aj.args,this]
instance (priority:=low) cj.int (n:Int):cj (.int .i64 n) n:=cj.enc n
class so {α:Type} [Enc α] (xs:List AV) (l:outParam (List α)):Prop where
 can:xs.map AV.can=l.map Enc.enc
instance so.map {α:Type} [Enc α] (l:List α):so (l.map Enc.enc) l:=⟨by rw [List.map_map];exact List.map_congr_left fun a _=>Enc.can a⟩
theorem cj.list {α:Type} [Enc α] {xs:List AV} {l:List α} (h:so xs l):cj (.list none (Enc.sz α) xs) l:=⟨rfl,by rw [xp,h.can];rfl⟩
instance so.sq (l:List aj):so (l.map aj.enc) l:=so.map l
instance cj.D8 (t:aj):cj t.enc t:=cj.enc t
instance cj.aq4 {xs:List AV} {l:List aj} [h:so xs l]:cj (.list none 2 xs) l:=cj.list h
end AM
/-! Steps of operations, one operand at a time, each held back until its operands are known. -/
namespace AM
open Go
theorem aq5 {gl:aR} {e:Env} {n:Nat}:bl gl e (.t n)=(match Env.get e n with | some (.v x)=>some x | _=>none):=_root_.id rfl
def uW (a:Option AV) (b:Option (List AV)):Option (List AV):=match a,b with | some v,some vs=>some (v::vs) | _,_=>none
theorem amv (v:AV) (vs:List AV):uW (some v) (some vs)=some (v::vs):=_root_.id rfl
def sr:Option bU→Bool | some (.b _)=>false | some (.a _ _)=>false | _=>true
theorem amw:sr none=true:=_root_.id rfl
theorem amx (x:AV):sr (some (.v x))=true:=_root_.id rfl
theorem J3 {l:Env} {d:Nat}:c9 (N l) d=sr (Env.get l d):=by unfold c9;rw [mE];rfl
def AF:Option bU→Bool | some (.a _ _)=>true | _=>false
theorem amy:AF none=false:=_root_.id rfl
theorem Td {l:Env} {d:Nat}:eJ (N l) d=AF (Env.get l d):=by unfold eJ;rw [mE];rfl
section
variable {K:ae→Prop} {tg:bA K}
def fF (s:ae) (d:Nat) (x:AV) (K:ae→Prop) (_:bA K):Prop:=c5 (s.put d x) K ⟨⟩
theorem amz {l:Env} {H:List aM} {d:Nat} {x:AV}:fF ⟨N l,H⟩ d x K tg=gU (sr (Env.get l d)) (fun b=>match b with | true=>K ⟨N ((d,.v x)::l),H⟩ | false=>False) ⟨⟩:=by
 unfold fF ae.put
 simp only [J3,w9]
 cases sr (Env.get l d)<;>simp [gU,c5]
def J4 (s:ae) (d:Nat) (cs:List AV) (K:ae→Prop) (_:bA K):Prop:=c5 (s.hW d cs) K ⟨⟩
theorem amA {l:Env} {H:List aM} {d:Nat} {cs:List AV}:J4 ⟨N l,H⟩ d cs K tg=gU (qP l [] d) (fun b=>match b with | true=>False | false=>gU (AF (Env.get l d)) (fun b=>match b with | true=>False | false=>K ⟨N ((d,.b cs)::l),H⟩) ⟨⟩) ⟨⟩:=by
 unfold J4 ae.hW
 simp only [Pp,Td,w9]
 cases qP l [] d<;>cases AF (Env.get l d)<;>simp [gU,c5]
end
def J5 (n off:Nat):Option bU→Option (List AV) | some (.b cs)=>if off+n≤cs.length then some ((cs.drop off).take n) else none | _=>none
theorem amB (n off:Nat) (cs:List AV):J5 n off (some (.b cs))=if off+n≤cs.length then some ((cs.drop off).take n) else none:=_root_.id rfl
theorem amC {l:Env} {H:List aM} {n t off:Nat}:aV ⟨N l,H⟩ n (.cV t off)=J5 n off (Env.get l t):=by unfold aV;simp only [mE];unfold J5;rfl
def AG (n off:Nat):Option aM→Option (List AV)
 | some (.cells cs)=>if off+n≤cs.length then some ((cs.drop off).take n) else none
 | some (.buf _ cs)=>if off+n≤cs.length then some ((cs.drop off).take n) else none
 | _=>none
theorem Te (n off e:Nat) (cs:List AV):AG n off (some (.buf e cs))=if off+n≤cs.length then some ((cs.drop off).take n) else none:=_root_.id rfl
theorem Tf {e:Env} {H:List aM} {n id off:Nat}:aV ⟨e,H⟩ n (.ao id off)=AG n off H[id]?:=by unfold aV AG;rfl
theorem amD {s:ae} {n:Nat} {cs:List AV}:aV s n (.fl cs)=if n≤cs.length then some (cs.take n) else none:=_root_.id rfl
def J6 (l:Env) (H:List aM) (t off:Nat) (vs:List AV):Option bU→Option ae | some (.b cs)=>if off+vs.length≤cs.length then some ⟨N ((t,.b (eV cs off vs))::l),H⟩ else none | _=>none
theorem amE (l:Env) (H:List aM) (t off:Nat) (vs cs:List AV):J6 l H t off vs (some (.b cs))=if off+vs.length≤cs.length then some ⟨N ((t,.b (eV cs off vs))::l),H⟩ else none:=_root_.id rfl
theorem amF {l:Env} {H:List aM} {vs:List AV} {t off:Nat}:aW ⟨N l,H⟩ vs (.cV t off)=J6 l H t off vs (Env.get l t):=by unfold aW;simp only [mE,w9];unfold J6;rfl
def uX (e:Env) (H:List aM) (id off:Nat) (vs:List AV):Option aM→Option ae
 | some (.cells cs)=>if off+vs.length≤cs.length then some ⟨e,H.set id (.cells (eV cs off vs))⟩ else none
 | some (.buf t cs)=>if off+vs.length≤cs.length then some ⟨e,H.set id (.buf t (eV cs off vs))⟩ else none
 | _=>none
theorem J7 (e:Env) (H:List aM) (id off t:Nat) (vs cs:List AV):uX e H id off vs (some (.buf t cs))=if off+vs.length≤cs.length then some ⟨e,H.set id (.buf t (eV cs off vs))⟩ else none:=_root_.id rfl
theorem Tg {e:Env} {H:List aM} {vs:List AV} {id off:Nat}:aW ⟨e,H⟩ vs (.ao id off)=uX e H id off vs H[id]?:=by unfold aW uX;rfl
def aq6 (w:Bool):Option bU→Option Bool | some (.v (.bool b))=>some (b==w) | some (.v (.bw []))=>some false | _=>none
def uY (s:ae) (d x:Nat) (K:ae→Prop) (_:bA K):AV→Prop
 | .list (some e) sz xs=>if d=x then False else fF s x (.list none sz xs) (fun s=>fF s d (.list (some e) sz xs) K ⟨⟩) ⟨⟩
 | v=>fF s d v.aL K ⟨⟩
section
variable {s:ae} {d x:Nat} {K:ae→Prop} {tg:bA K}
theorem amG (e z:Nat) (xs:List AV):uY s d x K tg (.list (some e) z xs)=if d=x then False else fF s x (.list none z xs) (fun s=>fF s d (.list (some e) z xs) K ⟨⟩) ⟨⟩:=_root_.id rfl
theorem amH (z:Nat) (xs:List AV):uY s d x K tg (.list none z xs)=fF s d (.list none z xs) K ⟨⟩:=_root_.id rfl
theorem amI (z:Nat):uY s d x K tg (AV.aH z)=fF s d (AV.aH z) K ⟨⟩:=_root_.id rfl
theorem amJ (i o n z:Nat):uY s d x K tg (AV.bI i o n z)=fF s d (AV.bI i o n z) K ⟨⟩:=_root_.id rfl
end
def nH (m:Nat) (H:List aM):AV→Option AV
 | .list _ _ xs=>if m=1 then some (.int .i64 xs.length) else none
 | .str b=>if m=0 then some (.int .i64 b.length) else none
 | .eN=>if m=2 then some (.int .i64 0) else none
 | .aH _=>if m=1 then some (.int .i64 0) else none
 | .eE _=>if m=1 then some (.int .i64 0) else none
 | .bI _ _ n _=>if m=1 then some (.int .i64 n) else none
 | .map id=>if m=2 then (match H[id]? with | some (.map _ es)=>some (.int .i64 es.length) | _=>none) else none
 | _=>none
theorem amK {H:List aM} (o:Option Nat) (z:Nat) (xs:List AV):nH 1 H (.list o z xs)=some (.int .i64 xs.length):=_root_.id rfl
theorem amL {H:List aM} (z:Nat):nH 1 H (.aH z)=some (.int .i64 0):=_root_.id rfl
theorem amM {H:List aM} (i o n z:Nat):nH 1 H (.bI i o n z)=some (.int .i64 n):=_root_.id rfl
def xr (sz:Nat):AV→AV→Option AV
 | .list _ b8 xs,.int _ n=>if b8=sz∧0≤n∧n<xs.length then (xs[n.toNat]?).map fun v=>.cU v.cells else none
 | .bI id off m b8,.int _ n=>if b8=sz∧0≤n∧n<m then some (.ptr id (off+n.toNat*sz)) else none
 | _,_=>none
theorem amN (sz:Nat) (o:Option Nat) (z:Nat) (xs:List AV) (k:IntKind) (n:Int):xr sz (.list o z xs) (.int k n)=if z=sz∧0≤n∧n<xs.length then (xs[n.toNat]?).map fun v=>.cU v.cells else none:=_root_.id rfl
theorem amO (sz i o m z:Nat) (k:IntKind) (n:Int):xr sz (.bI i o m z) (.int k n)=if z=sz∧0≤n∧n<m then some (.ptr i (o+n.toNat*sz)) else none:=_root_.id rfl
def AH (ag:Bool) (cs:List AV):Option AV:=if ag=true then some (.agg (cs.map AV.aL)) else match cs with | [v]=>some v.aL | _=>none
theorem amP (cs:List AV):AH true cs=some (.agg (cs.map AV.aL)):=_root_.id rfl
theorem amQ (v:AV):AH false [v]=some v.aL:=_root_.id rfl
def J8 (fz:Bool):AV→AV→Option AV
 | .int k a,.int _ b=>some (.int k (if fz=true then max a b else min a b))
 | _,_=>none
theorem amR (k k':IntKind) (a b:Int):J8 false (.int k a) (.int k' b)=some (.int k (min a b)):=_root_.id rfl
def Th:AV→Option AV | .bool b=>some (.bool (!b)) | _=>none
theorem amS (b:Bool):Th (.bool b)=some (.bool (!b)):=_root_.id rfl
def aq7:AV→Option AV | .int k n=>some (.int k (k.wrap (0 - n))) | _=>none
def Ti (k:IntKind):AV→Option AV | .int _ n=>some (.int k (k.wrap n)) | _=>none
theorem amT (k k':IntKind) (n:Int):Ti k (.int k' n)=some (.int k (k.wrap n)):=_root_.id rfl
def xt (s:ae) (d off:Nat):iD→Option ae
 | .cV t o=>if c9 s.env d then some { s with env:=s.env.ins d (.a t (o+off)) } else none
 | .ao id o=>s.put d (.ptr id (o+off))
 | .fl cs=>if off≤cs.length then s.put d (.cU (cs.drop off)) else none
section
variable {K:ae→Prop} {tg:bA K} {l:Env} {H:List aM} {s:ae} {d off:Nat}
theorem amU (t o:Nat):c5 (xt ⟨N l,H⟩ d off (.cV t o)) K tg=gU (sr (Env.get l d)) (fun b=>match b with | true=>K ⟨N ((d,.a t (o+off))::l),H⟩ | false=>False) ⟨⟩:=by
 unfold xt
 simp only [J3,w9]
 cases sr (Env.get l d)<;>simp [gU,c5]
theorem amV (cs:List AV):c5 (xt s d off (.fl cs)) K tg=if off≤cs.length then fF s d (.cU (cs.drop off)) K ⟨⟩ else False:=by
 unfold xt
 by_cases h:off≤cs.length<;>simp [h,fF,c5]
end
section
variable {K:ae→Prop} {tg:bA K} {l:Env} {H:List aM} {s:ae} {d n:Nat}
end
def AI (s:ae) (d u e sz:Nat):bU→List AV→Nat→Option ae
 | .v (.list (some bH) b8 xs),ys,gA=>if bH=e∧b8=sz∧gA=sz∧d≠u∧xs.length+ys.length≤M then (s.put u (.list none sz xs)).bind fun s=>s.put d (.list (some e) sz (xs++ys)) else none
 | .v (.aH b8),ys,gA=>if b8=sz∧gA=sz∧d≠u∧ys.length≤M then s.put d (.list (some e) sz ys) else none
 | _,_,_=>none
section
variable {K:ae→Prop} {tg:bA K} {s:ae} {d u e sz:Nat}
theorem amW (bH b8:Nat) (xs ys:List AV) (gA:Nat):c5 (AI s d u e sz (.v (.list (some bH) b8 xs)) ys gA) K tg=if bH=e∧b8=sz∧gA=sz∧d≠u∧xs.length+ys.length≤M then fF s u (.list none sz xs) (fun s=>fF s d (.list (some e) sz (xs++ys)) K ⟨⟩) ⟨⟩ else False:=by
 unfold AI
 by_cases h:bH=e∧b8=sz∧gA=sz∧d≠u∧xs.length+ys.length≤M
 ·simp only [if_pos h,fF,c5]
  cases s.put u (.list none sz xs)<;>rfl
 ·simp only [if_neg h,c5]
end
section
variable {g2:Nat} {aX av:Nat→Option Int} {l h:Int} {K:AV→Prop} {tg:bA K}
end
section
variable {P:Program} {gl:aR} {D:cv} {s:ae} {K:ae→Prop} {t:bA K}
theorem mI {α:Type} {o:Option α} {f:α→Option ae} {tg:bA K}:c5 (o.bind f) K tg=c6 o (fun v=>c5 (f v) K ⟨⟩) ⟨⟩:=by cases o<;>rfl
theorem Tj {α β:Type} {o:Option α} {f:α→β} {K:β→Prop} {tg:bA K}:c6 (o.map f) K tg=c6 o (fun v=>K (f v)) ⟨⟩:=by cases o<;>rfl
theorem amX {α:Type} {p:Prop} [Decidable p] {x:Option α} {K:α→Prop} {tg:bA K} (h:p):c6 (if p then x else none) K tg=c6 x K ⟨⟩:=by simp only [if_pos h]
theorem amY {d:Nat} {x:aq}:cO P gl D s K t (.I d x)=c6 (bl gl s.env x) (fun v=>fF s d v.aL K ⟨⟩) ⟨⟩:=by
 rw [Pv];simp only [au,mI];rfl
theorem amZ {d x:Nat}:cO P gl D s K t (.bg d x)=c6 (bl gl s.env (.t x)) (fun v=>uY s d x K ⟨⟩ v) ⟨⟩:=by
 rw [Pw]
 simp only [au,bl]
 cases Env.get s.env x with
 | none=>rfl
 | some e=>cases e with
  | v y=>cases y with
   | list o sz xs=>cases o with
    | none=>rfl
    | some e =>
     simp only [uY,c6]
     by_cases h:d=x
     ·simp only [h,if_true];rfl
     ·simp only [h,if_false,mI,fF]
      cases s.put x (.list none sz xs)<;>rfl
   | _=>rfl
  | _=>rfl
theorem am0 {d e sz:Nat}:cO P gl D s K t (.hr d e sz)=fF s d (.list (some e) sz []) K ⟨⟩:=_root_.id rfl
def Tk (v:AV) (K:Bool→Prop) (_:bA K):Prop:=match v with | .bool b=>gU b K ⟨⟩ | _=>False
theorem Tl {b:Bool} {K:Bool→Prop} {tg:bA K}:Tk (.bool b) K tg=gU b K ⟨⟩:=_root_.id rfl
theorem am1 {d:Nat} {c a b:aq}:cO P gl D s K t (.pick d c a b)=c6 (bl gl s.env c) (fun v=>Tk v (fun q=>match q with | true=>c6 (bl gl s.env a) (fun v=>fF s d v.aL K ⟨⟩) ⟨⟩ | false=>c6 (bl gl s.env b) (fun v=>fF s d v.aL K ⟨⟩) ⟨⟩) ⟨⟩) ⟨⟩:=by
 rw [Px];simp only [au]
 cases bl gl s.env c with
 | none=>rfl
 | some v=>cases v with
  | bool q=>cases q<;>simp only [mI,h9,Tl,Pq,Pr,Bool.false_eq_true,if_true,if_false]<;>rfl
  | _=>rfl
theorem am2 {d m:Nat} {op:BinOp} {x y:aq}:cO P gl D s K t (.bin d m op x y)=c6 (bl gl s.env x) (fun a=>c6 (bl gl s.env y) (fun b=>c6 (vi m op a b) (fun v=>fF s d v K ⟨⟩) ⟨⟩) ⟨⟩) ⟨⟩:=by
 rw [Py];simp only [au]
 cases bl gl s.env x with
 | none=>rfl
 | some a=>cases bl gl s.env y with
  | none=>rfl
  | some b=>simp only [mI];rfl
theorem am3 {d:Nat} {x:aq}:cO P gl D s K t (.cB d x)=c6 (bl gl s.env x) (fun a=>c6 (Th a) (fun v=>fF s d v K ⟨⟩) ⟨⟩) ⟨⟩:=by
 rw [Pz];simp only [au]
 cases bl gl s.env x with
 | none=>rfl
 | some a=>cases a<;>rfl
theorem am4 {d:Nat} {k:IntKind} {x:aq}:cO P gl D s K t (.conv d k x)=c6 (bl gl s.env x) (fun a=>c6 (Ti k a) (fun v=>fF s d v K ⟨⟩) ⟨⟩) ⟨⟩:=by
 rw [PA];simp only [au]
 cases bl gl s.env x with
 | none=>rfl
 | some a=>cases a<;>rfl
theorem am5 {d m:Nat} {x:aq}:cO P gl D s K t (.len d m x)=c6 (bl gl s.env x) (fun a=>c6 (nH m s.heap a) (fun v=>fF s d v K ⟨⟩) ⟨⟩) ⟨⟩:=by
 rw [PB];simp only [au]
 cases bl gl s.env x with
 | none=>rfl
 | some a=>cases a with
  | list o z xs=>simp only [nH,h9];split<;>rfl
  | str q=>simp only [nH,h9];split<;>rfl
  | eN=>simp only [nH,h9];split<;>rfl
  | aH z=>simp only [nH,h9];split<;>rfl
  | eE z=>simp only [nH,h9];split<;>rfl
  | bI i o n z=>simp only [nH,h9];split<;>rfl
  | map i =>
   simp only [nH,h9]
   split
   ·cases s.heap[i]? with
    | none=>rfl
    | some bt=>cases bt<;>rfl
   ·rfl
  | _=>rfl
theorem am6 {d:Nat} {z:List AV}:cO P gl D s K t (.alloc d z)=J4 s d z K ⟨⟩:=_root_.id rfl
theorem am7 {d:Nat} {x:aq}:cO P gl D s K t (.cz d x)=c6 (bl gl s.env x) (fun v=>if v.cells.all AV.dw then fF s d (.cU v.cells) K ⟨⟩ else False) ⟨⟩:=by
 rw [PC];simp only [au,mI]
 cases bl gl s.env x with
 | none=>rfl
 | some v=>simp only [h9];split<;>rfl
theorem am8 {d:Nat} {z:List AV} {parts:List (Nat×Nat×aq)}:cO P gl D s K t (.build d z parts)=c6 (jA gl s.env z parts) (fun cs=>fF s d (.agg cs) K ⟨⟩) ⟨⟩:=by
 rw [PD];simp only [au,mI];rfl
theorem am9 {d sz:Nat} {xs:List aq}:cO P gl D s K t (.lit d sz xs)=c6 (dQ gl s.env xs) (fun vs=>if vs.all (fun v=>v.aL.pure&&v.cells.length==sz)&&decide (vs.length≤1000) then fF s d (.list none sz (vs.map AV.aL)) K ⟨⟩ else False) ⟨⟩:=by
 rw [PE];simp only [au,mI]
 cases dQ gl s.env xs with
 | none=>rfl
 | some v=>simp only [h9];split<;>rfl
theorem ana {d e sz:Nat} {xs:List aq}:cO P gl D s K t (.kr d e sz xs)=c6 (dQ gl s.env xs) (fun vs=>if vs.all (fun v=>v.cells.length==sz&&v.cells.all AV.one)&&decide (vs.length≤1000)&&sz != 0 then fF { s with heap:=s.heap++[aM.buf e (vs.map fun v:AV=>v.cells.map AV.aL).flatten,.dead] } d (.bI s.heap.length 0 vs.length sz) K ⟨⟩ else False) ⟨⟩:=by
 rw [PL];simp only [au,mI]
 cases dQ gl s.env xs with
 | none=>rfl
 | some v=>simp only [h9];split<;>rfl
theorem anb {d:Nat} {x:aq} {off:Nat}:cO P gl D s K t (.aC d x off)=c6 (dn gl s.env x) (fun p=>c5 (xt s d off p) K ⟨⟩) ⟨⟩:=by
 rw [PF];simp only [au]
 cases dn gl s.env x with
 | none=>rfl
 | some p=>cases p<;>rfl
theorem anc {d sz:Nat} {x i:aq}:cO P gl D s K t (.bm d sz x i)=c6 (bl gl s.env x) (fun a=>c6 (bl gl s.env i) (fun b=>c6 (xr sz a b) (fun v=>fF s d v K ⟨⟩) ⟨⟩) ⟨⟩) ⟨⟩:=by
 rw [PG];simp only [au]
 cases bl gl s.env x with
 | none=>rfl
 | some a=>cases bl gl s.env i with
  | none=>cases a<;>rfl
  | some b=>cases a with
   | list o z xs=>cases b with
    | int k n =>
     simp only [h9,xr]
     split
     ·simp only [mI,Tj];rfl
     ·rfl
    | _=>rfl
   | bI i o n z=>cases b with
    | int k n =>
     simp only [h9,xr]
     split<;>rfl
    | _=>rfl
   | _=>rfl
theorem ane {d:Nat} {x:aq} {n:Nat} {ag:Bool}:cO P gl D s K t (.ak d x n ag)=c6 (dn gl s.env x) (fun p=>c6 (aV s n p) (fun cs=>c6 (AH ag cs) (fun v=>fF s d v K ⟨⟩) ⟨⟩) ⟨⟩) ⟨⟩:=by
 rw [PH];simp only [au,mI]
 cases dn gl s.env x with
 | none=>rfl
 | some p =>
  simp only [h9]
  cases aV s n p with
  | none=>rfl
  | some cs =>
   simp only [h9,AH,Option.bind_some]
   cases ag with
   | true=>rfl
   | false=>match cs with
    | []=>rfl
    | [_]=>rfl
    | _::_::_=>rfl
theorem anf {n:Nat} {x v:aq}:cO P gl D s K t (.st n x v)=c6 (dn gl s.env x) (fun p=>c6 (bl gl s.env v) (fun v=>if v.cells.length=n∧v.cells.all AV.one then c5 (aW s (v.cells.map AV.aL) p) K ⟨⟩ else False) ⟨⟩) ⟨⟩:=by
 rw [PI];simp only [au,mI]
 cases dn gl s.env x with
 | none=>rfl
 | some p =>
  simp only [h9]
  cases bl gl s.env v with
  | none=>rfl
  | some v =>
   simp only [h9,Option.bind_some]
   by_cases h:v.cells.length=n∧v.cells.all AV.one=true
   ·simp only [if_pos h]
   ·simp only [if_neg h];rfl
def Tm (s:ae) (d u e sz:Nat) (mJ:bU) (K:ae→Prop) (_:bA K):Option (Nat×List AV)→Prop
 | some (z,ys)=>c5 (AI s d u e sz mJ ys z) K ⟨⟩
 | none=>False
theorem ang {d u e sz:Nat} {mJ:bU} {z:Nat} {ys:List AV} {tg:bA K}:Tm s d u e sz mJ K tg (some (z,ys))=c5 (AI s d u e sz mJ ys z) K ⟨⟩:=_root_.id rfl
theorem anh {d u:Nat} {x:aq} {e sz:Nat}:cO P gl D s K t (.app d u x e sz)=c6 (Env.get s.env u) (fun mJ=>c6 (bl gl s.env x) (fun y=>Tm s d u e sz mJ K ⟨⟩ y.fy) ⟨⟩) ⟨⟩:=by
 rw [PJ];simp only [au]
 cases Env.get s.env u with
 | none=>rfl
 | some mJ =>
  cases bl gl s.env x with
  | none=>cases mJ with
   | v y=>cases y with
    | list o z xs=>cases o<;>rfl
    | _=>rfl
   | _=>rfl
  | some y =>
   simp only [Option.bind_some,h9]
   cases y.fy with
   | none=>cases mJ with
    | v y=>cases y with
     | list o z xs=>cases o<;>rfl
     | _=>rfl
    | _=>rfl
   | some q =>
    obtain ⟨z,ys⟩:=q
    cases mJ with
    | v y=>cases y with
     | list o ym xs=>cases o<;>rfl
     | _=>rfl
    | _=>rfl
theorem ani {d:Nat} {fz:Bool} {x y:aq}:cO P gl D s K t (.jS d fz x y)=c6 (bl gl s.env x) (fun a=>c6 (bl gl s.env y) (fun b=>c6 (J8 fz a b) (fun v=>fF s d v K ⟨⟩) ⟨⟩) ⟨⟩) ⟨⟩:=by
 rw [PK];simp only [au]
 cases bl gl s.env x with
 | none=>rfl
 | some a=>cases bl gl s.env y with
  | none=>cases a<;>rfl
  | some b=>cases a with
   | int k a=>cases b with
    | int k' b =>
     simp only [h9,J8]
     have aB:(if b>a then b else a)=max a b:=by rw [Int.max_def];split<;>split<;>omega
     have aI:(if b<a then b else a)=min a b:=by rw [Int.min_def];split<;>split<;>omega
     rw [aB,aI];rfl
    | _=>rfl
   | _=>rfl
def uZ (m:Nat) (P:Program) (gl:aR) (D:cv) (s:ae) (K:ae→Prop) (_:bA K) (o:bR) (k:Nat):Prop:=if k=m then cO P gl D s K ⟨⟩ o else False
theorem anj {m:Nat} {o:bR} {tg:bA K}:uZ m P gl D s K tg o m=cO P gl D s K ⟨⟩ o:=by simp only [uZ,if_true]
theorem ank {m:Nat} {d n:Nat} {x:aq} {ag:Bool}:cO P gl D s K t (.on m (.ak d x n ag))=uZ m P gl D s K ⟨⟩ (.ak d x n ag) (eg s.env x):=by
 show c5 (if eg s.env x=m then au gl s (.ak d x n ag) else none) K ⟨⟩=_
 unfold uZ
 by_cases h:eg s.env x=m
 ·rw [if_pos h,if_pos h];rfl
 ·rw [if_neg h,if_neg h];rfl
theorem anl {m:Nat} {n:Nat} {x v:aq}:cO P gl D s K t (.on m (.st n x v))=uZ m P gl D s K ⟨⟩ (.st n x v) (eg s.env x):=by
 show c5 (if eg s.env x=m then au gl s (.st n x v) else none) K ⟨⟩=_
 unfold uZ
 by_cases h:eg s.env x=m
 ·rw [if_pos h,if_pos h];rfl
 ·rw [if_neg h,if_neg h];rfl
end
attribute [go_sem ↓ 2000] ank anl amY amZ am0 am1 am2 am3 am4 am5 am6 am7 am8 am9 ana anb anc ane anf anh ani
attribute [go_sem 2000] amv amw amx J3 amy Td amz amA amB amC Te Tf amD amE amF J7 Tg amG amH amI amJ amK amL amM amN amO amP amQ amR amS amT amU amV amW Tl mI Tj amX ang anj
end AM
/-! Known calls by their contracts; branches that the context decides. -/
namespace AM
open Go
open Enc (enc)
instance:Inhabited aj:=⟨.mk [] []⟩
class eI (D D':cv):Prop where
 h:∀f xs r,D' f xs=some r→D f xs=some r
instance eI.refl (D:cv):eI D D:=⟨fun _ _ _ h=>h⟩
def nI (A B:cv):cv:=fun f xs=>match A f xs with | some r=>some r | none=>B f xs
theorem eI.xu {D A B:cv} (h:eI D (nI A B)):eI D A:=⟨fun f xs r aA=>h.h f xs r (by simp only [nI,aA])⟩
def kQ (D:cv) (az:List Nat):Prop:=∀f xs,az.contains f=false→D f xs=none
theorem kQ.or {A B:cv} {az ls:List Nat} (R:kQ A az) (aa:kQ B ls):kQ (nI A B) (ls++az):=fun f xs h=>by
 rw [Pm] at h
 simp only [Bool.or_eq_false_iff] at h
 simp only [nI,R f xs h.2,aa f xs h.1]
abbrev qY:=Nat×(List AV→Option AV)
def lv:List qY→cv
 | [],_,_=>none
 | (k,F)::r,f,xs=>if f=k then F xs else lv r f xs
theorem u0:∀l:List qY,kQ (lv l) (l.map Prod.fst)
 | [],f,xs,_=>rfl
 | (k,F)::r,f,xs,h=>by
  simp only [List.map_cons,List.contains_cons,Bool.or_eq_false_iff,beq_eq_false_iff_ne] at h
  simp only [lv,if_neg h.1,u0 r f xs h.2]
theorem AJ {A B:cv} {az:List Nat} (aw:kQ A az) {f:Nat} (ab:az.contains f=false) {xs:List AV}:nI A B f xs=B f xs:=by simp only [nI,aw f xs ab]
section
open Classical
variable {α β mK xv:Type} [Enc α] [Enc β] [Enc mK] [Enc xv]
noncomputable def kf (F:α→AV):List AV→Option AV
 | [x]=>if h:∃a:α,cj x a then some (F h.choose) else none
 | _=>none
noncomputable def mL (F:α→β→AV):List AV→Option AV
 | [x,y]=>if h:∃a:α×β,cj x a.1∧cj y a.2 then some (F h.choose.1 h.choose.2) else none
 | _=>none
noncomputable def u1 (F:α→β→mK→AV):List AV→Option AV
 | [x,y,z]=>if h:∃a:α×β×mK,cj x a.1∧cj y a.2.1∧cj z a.2.2 then some (F h.choose.1 h.choose.2.1 h.choose.2.2) else none
 | _=>none
theorem anm {F:α→AV} {x:AV} {a:α} (h:cj x a):kf F [x]=some (F a):=by
 have ai:∃a:α,cj x a:=⟨a,h⟩
 simp only [kf,dif_pos ai,ai.choose_spec.uniq h]
theorem ann {F:α→β→AV} {x y:AV} {a:α} {b:β} (R:cj x a) (aa:cj y b):mL F [x,y]=some (F a b):=by
 have ai:∃a:α×β,cj x a.1∧cj y a.2:=⟨(a,b),R,aa⟩
 simp only [mL,dif_pos ai,ai.choose_spec.1.uniq R,ai.choose_spec.2.uniq aa]
theorem ano {F:α→β→mK→AV} {x y z:AV} {a:α} {b:β} {c:mK} (R:cj x a) (aa:cj y b) (al:cj z c):u1 F [x,y,z]=some (F a b c):=by
 have ai:∃a:α×β×mK,cj x a.1∧cj y a.2.1∧cj z a.2.2:=⟨(a,b,c),R,aa,al⟩
 simp only [u1,dif_pos ai,ai.choose_spec.1.uniq R,ai.choose_spec.2.1.uniq aa,ai.choose_spec.2.2.uniq al]
end
def l2:List AV→Option (List AV)
 | []=>some []
 | x::r=>uW (some x.aL) (l2 r)
theorem anp:l2 []=some []:=id rfl
theorem Tn (x:AV) (r:List AV):l2 (x::r)=uW (some x.aL) (l2 r):=id rfl
theorem xw:∀l:List AV,l2 l=some (l.map AV.aL)
 | []=>rfl
 | x::r=>by rw [Tn,xw r];rfl
def gy (P:Program) (gl:aR) (D:cv) (f:Nat) (vs:List AV) (K:AV→Prop) (_:bA K):Prop :=
 vs.all AV.arg=true∧c6 (D f vs) (fun r=>a4 P gl f vs r∧K r) ⟨⟩
section
variable {P:Program} {gl:aR} {D D':cv} {f:Nat} {K:AV→Prop} {tg:bA K}
theorem anq {d:Option Nat} {xs:List aq} {s:ae} {K:ae→Prop} {t:bA K}:cO P gl D s K t (.aQ d f xs)=c6 (dQ gl s.env xs) (fun vs=>c6 (l2 vs) (fun vs=>gy P gl D f vs (fun r=>c5 (s.ef d r) K ⟨⟩) ⟨⟩) ⟨⟩) ⟨⟩:=by
 rw [Ps]
 cases dQ gl s.env xs with
 | none=>rfl
 | some vs =>
  show _=c6 (l2 vs) _ ⟨⟩
  rw [xw];rfl
theorem AK {vs:List AV} {r:AV} (aZ:vs.all AV.arg=true) (aw:D f vs=some r) (af:a4 P gl f vs r):gy P gl D f vs K tg=K r:=by
 simp only [gy,aZ,aw,h9,af,true_and]
theorem anr {r:AV} (aw:D' f []=some r) (af:a4 P gl f [] r) [ab:eI D D']:gy P gl D f [] K tg=K r :=
 AK rfl (ab.h _ _ _ aw) af
variable {α β mK xv:Type} [Enc α] [Enc β] [Enc mK] [Enc xv]
theorem J9 {F:α→AV} {x:AV} {a:α} [R:cj x a] (aw:∀xs,D' f xs=kf F xs) (af:a4 P gl f [enc a] (F a)) [ab:eI D D']:gy P gl D f [x] K tg=K (F a) :=
 AK (by simp only [List.all_cons,R.arg,List.all_nil,Bool.and_self]) (ab.h _ _ _ (by rw [aw,anm R])) (af.args (.cons R.qX .nil))
theorem AL {F:α→β→AV} {x y:AV} {a:α} {b:β} [R:cj x a] [aa:cj y b] (aw:∀xs,D' f xs=mL F xs) (af:a4 P gl f [enc a,enc b] (F a b)) [ab:eI D D']:gy P gl D f [x,y] K tg=K (F a b) :=
 AK (by simp only [List.all_cons,R.arg,aa.arg,List.all_nil,Bool.and_self]) (ab.h _ _ _ (by rw [aw,ann R aa])) (af.args (.cons R.qX (.cons aa.qX .nil)))
theorem Ka {F:α→β→mK→AV} {x y z:AV} {a:α} {b:β} {c:mK} [R:cj x a] [aa:cj y b] [al:cj z c] (aw:∀xs,D' f xs=u1 F xs) (af:a4 P gl f [enc a,enc b,enc c] (F a b c)) [ab:eI D D']:gy P gl D f [x,y,z] K tg=K (F a b c) :=
 AK (by simp only [List.all_cons,R.arg,aa.arg,al.arg,List.all_nil,Bool.and_self]) (ab.h _ _ _ (by rw [aw,ano R aa al])) (af.args (.cons R.qX (.cons aa.qX (.cons al.qX .nil))))
end
section
variable {K:Bool→Prop} {tg:bA K}
theorem AN {b:Bool} (h:b=true):gU b K tg=K true:=by subst h;rfl
theorem AO {b:Bool} (h:b=false):gU b K tg=K false:=by subst h;rfl
theorem ans {p:Prop} [Decidable p] (h:p):gU (decide p) K tg=K true:=AN (decide_eq_true h)
theorem ant {p:Prop} [Decidable p] (h:¬p):gU (decide p) K tg=K false:=AO (decide_eq_false h)
theorem anu {a b:Int} (h:a=b):gU (a==b) K tg=K true:=AN (by simp [h])
theorem anv {a b:Int} (h:a≠b):gU (a==b) K tg=K false:=AO (by simp [h])
theorem anw {a b:Int} (h:a≠b):gU (a != b) K tg=K true:=AN (by simp [h])
theorem anx {a b:Int} (h:a=b):gU (a != b) K tg=K false:=AO (by simp [h])
theorem anz {b:Bool}:gU (!b) K tg=gU b (fun c=>K (!c)) ⟨⟩:=rfl
end
class xx (b:Bool) (p q:outParam Prop):Prop where
 t:p∨q
 h:(b=true→p)∧(b=false→q)
instance {p:Prop} [Decidable p]:xx (decide p) p (¬p):=⟨Decidable.em p,fun h=>of_decide_eq_true h,fun h=>of_decide_eq_false h⟩
instance {a b:Int}:xx (a==b) (a=b) (a≠b):=⟨Decidable.em _,fun h=>by simpa using h,fun h=>by simpa using h⟩
instance {a b:Int}:xx (a != b) (a≠b) (a=b):=⟨(Decidable.em (a=b)).symm,fun h=>by simpa using h,fun h=>by simpa using h⟩
instance (priority:=low) {b:Bool}:xx b (b=true) (b=false):=⟨by cases b<;>simp,fun h=>h,fun h=>h⟩
theorem cm {K:Bool→Prop} {tg:bA K} {b:Bool} {p q:Prop} [i:xx b p q] (R:p→gU true K ⟨⟩) (aa:q→gU false K ⟨⟩):gU b K tg:=by
 cases b
 ·exact aa (i.h.2 rfl)
 ·exact R (i.h.1 rfl)
theorem anA {p:Prop} [Decidable p] {x:Option ae} {K:ae→Prop} {tg:bA K} (h:p):c5 (if p then x else none) K tg=c5 x K ⟨⟩:=by simp only [if_pos h]
theorem anB {α:Type} [Inhabited α] {f:α→AV} {l:List α} {n:Nat} (h:n<l.length):(l.map f)[n]?=some (f l[n]!):=by
 rw [List.getElem?_map,List.getElem?_eq_getElem h]
 simp [h]
theorem Kb {α:Type} [Inhabited α] {l:List α} {n:Nat} (h:n<l.length):l[n]?=some l[n]!:=by
 rw [List.getElem?_eq_getElem h]
 simp [h]
theorem To {α:Type} [Inhabited α] {l:List α} {n:Nat} (h:n<l.length):l[n]!∈l:=by
 have:=Kb h
 exact List.mem_of_getElem? this
theorem dJ {α:Type} [Inhabited α] {l:List α} {i:Nat} (h:i<l.length):l.take (i+1)=l.take i++[l[i]!]:=anC (Kb h)
where anC {α:Type} {l:List α} {i:Nat} {x:α} (h:l[i]?=some x):l.take (i+1)=l.take i++[x]:=by rw [List.take_add_one,h];rfl
theorem Kc {α:Type} [Inhabited α] {l:List α} {i:Nat} (h:i<l.length):l.drop i=l[i]!::l.drop (i+1):=by
 rw [List.drop_eq_getElem_cons h]
 simp [h]
theorem dN (m n:Nat):((max m n:Nat):Int)=max (m:Int) n:=by omega
theorem dO (m n:Nat):((min m n:Nat):Int)=min (m:Int) n:=by omega
theorem anD {n:Int} (h : -9223372036854775808≤n∧n<9223372036854775808):IntKind.i64.wrap n=n:=wrap64 h.1 h.2
section
variable {P:Program} {gl:aR}
theorem a4.Kd {α:Type} [Enc α] {f:Nat} {a:α} {xs:List AV} {r:AV} (h:Enc.eG a→a4 P gl f (enc a::xs) r):a4 P gl f (enc a::xs) r :=
 a4.assume (fun _ _ h=>by cases h with | cons _ _ _ _ h _=>exact Enc.kd h) h
end
attribute [go_sem ↓ 2000] anq
attribute [go_sem] AN AO ans ant anu anv anw anx anz anA anB anD
attribute [go_sem] aj.arg aj.res aj.aL aj.cP dB dC dD dE dF dG dH dI
theorem aj.fold (t:aj):AV.agg [.str t.name,.list none 2 (t.args.map aj.enc)]=t.enc:=t.uV.symm
attribute [go_sem] anp Tn aj.fold
attribute [go_sem] Int.toNat_natCast Int.natCast_add Int.natCast_one List.length_map
end AM
/-! Structs of the program as typed data; calls over the heap as steps. -/
set_option linter.unusedSimpArgs false
namespace AM
open Go
open Enc (enc)
theorem ss {γ:dp}:∀{cs:List AV} {b off:Nat},dt γ b off cs→∀c∈cs,∃v,cp γ c v
 | _,_,_,.nil _ _,c,h=>by cases h
 | _,_,_,.cons _ _ x r v _ _ R aa,c,h=>by
  rcases List.mem_cons.1 h with rfl | h
  ·exact ⟨v,R⟩
  ·exact ss aa c h
theorem su {g:a5}:∀{cs:List AV} {ws:List Value},bW g cs ws→∀c∈cs,∃v,aU g c v
 | _,_,.nil,c,h=>by cases h
 | _,_,.cons x r v ws R aa,c,h=>by
  rcases List.mem_cons.1 h with rfl | h
  ·exact ⟨v,R⟩
  ·exact su aa c h
class e9 (c:AV) (p:outParam Prop):Prop where
 mM:∀{γ:dp} {v:Value},cp γ c v→p
 mN:∀{g:a5} {v:Value},aU g c v→p
instance (s:List UInt8):e9 (.str s) (s.length≤M):=⟨S8,fun h=>h.zs⟩
instance (b:Bool):e9 (.bool b) True:=⟨fun _=>trivial,fun _=>trivial⟩
instance (k:IntKind) (n:Int):e9 (.int k n) True:=⟨fun _=>trivial,fun _=>trivial⟩
instance {α:Type} [Enc α] (l:List α):e9 (.list none (Enc.sz α) (l.map Enc.enc)) (l.length≤M∧∀a∈l,Enc.eG a):=⟨uU,fun h=>by
 cases h with
 | pure _ _ h=>exact uU h⟩
instance e9.sq (l:List aj):e9 (.list none 2 (l.map aj.enc)) (l.length≤M∧∀a∈l,a.eG):=⟨fun h=>uU (α:=aj) h,fun h=>by
 cases h with
 | pure _ _ h=>exact uU (α:=aj) h⟩
structure Lit where
 neg:Bool
 atom:aj
def Lit.enc (x:Lit):AV:=.agg [.bool x.neg,.str x.atom.name,.list none 2 (x.atom.args.map aj.enc)]
instance:Enc Lit where
 sz:=3
 enc:=Lit.enc
 arg _:=rfl
 can x:=by
  simp only [Lit.enc,qW,List.map_cons,List.map_nil,AV.can,oA,List.map_map]
  rw [show x.atom.args.map (AV.can∘aj.enc)=x.atom.args.map aj.enc from List.map_congr_left fun a _=>Enc.can a]
 inj x y h:=by
  simp only [Lit.enc,AV.agg.injEq,List.cons.injEq,AV.str.injEq,AV.bool.injEq,AV.int.injEq,AV.list.injEq,true_and,and_true] at h
  obtain ⟨a0,R,aa⟩:=h
  have xy:x.neg=y.neg:=a0
  have Tp:x.atom=y.atom:=by rw [←x.atom.eta,←y.atom.eta,R,(List.map_inj_right fun a b h=>aj.xq a b h).1 aa]
  cases x;cases y;simp only at xy Tp;simp only [xy,Tp]
 mH _:=rfl
 eG x:=x.atom.name.length≤M∧(x.atom.args.length≤M∧∀a∈x.atom.args,a.eG)
 kc {γ b off x} h:=by
  have h:=ss h
  simp only [Lit.enc,AV.cells,List.mem_cons,List.not_mem_nil,or_false,forall_eq_or_imp,forall_eq] at h
  obtain ⟨⟨v0,gu⟩,⟨v1,an⟩,⟨v2,ar⟩⟩:=h
  exact ⟨e9.mM an,e9.mM (self:=e9.sq x.atom.args) ar⟩
 kd {g x v} h:=by
  obtain ⟨ws,rfl,R,_⟩:=aU.jD h
  have h:=su R
  simp only [List.mem_cons,List.not_mem_nil,or_false,forall_eq_or_imp,forall_eq] at h
  obtain ⟨⟨v0,gu⟩,⟨v1,an⟩,⟨v2,ar⟩⟩:=h
  exact ⟨e9.mN an,e9.mN (self:=e9.sq x.atom.args) ar⟩
instance:Inhabited Lit:=⟨⟨false,default⟩⟩
theorem Lit.cP (x:Lit):x.enc.cells=[.bool x.neg,.str x.atom.name,.list none 2 (x.atom.args.map aj.enc)]:=rfl
theorem Lit.fold (x:Lit):AV.agg [.bool x.neg,.str x.atom.name,.list none 2 (x.atom.args.map aj.enc)]=x.enc:=rfl
theorem Lit.no (x:Lit):x.enc.aL=x.enc:=rfl
theorem Lit.dv (x:Lit):x.enc.arg=true:=rfl
theorem Lit.on (x:Lit):x.enc.one=false:=rfl
theorem Lit.nJ (x:Lit):x.enc.res=true:=rfl
theorem Lit.eqv (x:Lit):(Enc.enc x:AV)=x.enc:=rfl
theorem Lit.nK (l:List Lit):(Enc.enc l:AV)=.list none 3 (l.map Lit.enc):=rfl
structure ft where
 head:aj
 body:List Lit
def ft.enc (x:ft):AV:=.agg [.str x.head.name,.list none 2 (x.head.args.map aj.enc),.list none 3 (x.body.map Lit.enc)]
instance:Enc ft where
 sz:=3
 enc:=ft.enc
 arg _:=rfl
 can x:=by
  simp only [ft.enc,qW,List.map_cons,List.map_nil,AV.can,oA,List.map_map]
  rw [show x.head.args.map (AV.can∘aj.enc)=x.head.args.map aj.enc from List.map_congr_left fun a _=>Enc.can a,show x.body.map (AV.can∘Lit.enc)=x.body.map Lit.enc from List.map_congr_left fun a _=>Enc.can a]
 inj x y h:=by
  simp only [ft.enc,AV.agg.injEq,List.cons.injEq,AV.str.injEq,AV.bool.injEq,AV.int.injEq,AV.list.injEq,true_and,and_true] at h
  obtain ⟨a0,R,aa⟩:=h
  have xz:x.head=y.head:=by rw [←x.head.eta,←y.head.eta,a0,(List.map_inj_right fun a b h=>aj.xq a b h).1 R]
  have xA:x.body=y.body:=(List.map_inj_right (f:=Lit.enc) fun a b h=>Enc.inj a b h).1 aa
  cases x;cases y;simp only at xz xA;simp only [xz,xA]
 mH _:=rfl
 eG x:=x.head.name.length≤M∧(x.head.args.length≤M∧∀a∈x.head.args,a.eG)∧(x.body.length≤M∧∀a∈x.body,Enc.eG a)
 kc {γ b off x} h:=by
  have h:=ss h
  simp only [ft.enc,AV.cells,List.mem_cons,List.not_mem_nil,or_false,forall_eq_or_imp,forall_eq] at h
  obtain ⟨⟨v0,gu⟩,⟨v1,an⟩,⟨v2,ar⟩⟩:=h
  exact ⟨e9.mM gu,e9.mM (self:=e9.sq x.head.args) an,(e9.mM (c:=.list none (Enc.sz Lit) (x.body.map Enc.enc)) ar)⟩
 kd {g x v} h:=by
  obtain ⟨ws,rfl,R,_⟩:=aU.jD h
  have h:=su R
  simp only [List.mem_cons,List.not_mem_nil,or_false,forall_eq_or_imp,forall_eq] at h
  obtain ⟨⟨v0,gu⟩,⟨v1,an⟩,⟨v2,ar⟩⟩:=h
  exact ⟨e9.mN gu,e9.mN (self:=e9.sq x.head.args) an,(e9.mN (c:=.list none (Enc.sz Lit) (x.body.map Enc.enc)) ar)⟩
instance:Inhabited ft:=⟨⟨default,[]⟩⟩
theorem ft.cP (x:ft):x.enc.cells=[.str x.head.name,.list none 2 (x.head.args.map aj.enc),.list none 3 (x.body.map Lit.enc)]:=rfl
theorem ft.fold (x:ft):AV.agg [.str x.head.name,.list none 2 (x.head.args.map aj.enc),.list none 3 (x.body.map Lit.enc)]=x.enc:=rfl
theorem ft.no (x:ft):x.enc.aL=x.enc:=rfl
theorem ft.dv (x:ft):x.enc.arg=true:=rfl
theorem ft.on (x:ft):x.enc.one=false:=rfl
theorem ft.nJ (x:ft):x.enc.res=true:=rfl
theorem ft.eqv (x:ft):(Enc.enc x:AV)=x.enc:=rfl
theorem ft.nK (l:List ft):(Enc.enc l:AV)=.list none 3 (l.map ft.enc):=rfl
structure fu where
 var:List UInt8
 term:aj
def fu.enc (x:fu):AV:=.agg [.str x.var,.str x.term.name,.list none 2 (x.term.args.map aj.enc)]
instance:Enc fu where
 sz:=3
 enc:=fu.enc
 arg _:=rfl
 can x:=by
  simp only [fu.enc,qW,List.map_cons,List.map_nil,AV.can,oA,List.map_map]
  rw [show x.term.args.map (AV.can∘aj.enc)=x.term.args.map aj.enc from List.map_congr_left fun a _=>Enc.can a]
 inj x y h:=by
  simp only [fu.enc,AV.agg.injEq,List.cons.injEq,AV.str.injEq,AV.bool.injEq,AV.int.injEq,AV.list.injEq,true_and,and_true] at h
  obtain ⟨a0,R,aa⟩:=h
  have Tq:x.var=y.var:=a0
  have Tr:x.term=y.term:=by rw [←x.term.eta,←y.term.eta,R,(List.map_inj_right fun a b h=>aj.xq a b h).1 aa]
  cases x;cases y;simp only at Tq Tr;simp only [Tq,Tr]
 mH _:=rfl
 eG x:=x.var.length≤M∧x.term.name.length≤M∧(x.term.args.length≤M∧∀a∈x.term.args,a.eG)
 kc {γ b off x} h:=by
  have h:=ss h
  simp only [fu.enc,AV.cells,List.mem_cons,List.not_mem_nil,or_false,forall_eq_or_imp,forall_eq] at h
  obtain ⟨⟨v0,gu⟩,⟨v1,an⟩,⟨v2,ar⟩⟩:=h
  exact ⟨e9.mM gu,e9.mM an,e9.mM (self:=e9.sq x.term.args) ar⟩
 kd {g x v} h:=by
  obtain ⟨ws,rfl,R,_⟩:=aU.jD h
  have h:=su R
  simp only [List.mem_cons,List.not_mem_nil,or_false,forall_eq_or_imp,forall_eq] at h
  obtain ⟨⟨v0,gu⟩,⟨v1,an⟩,⟨v2,ar⟩⟩:=h
  exact ⟨e9.mN gu,e9.mN an,e9.mN (self:=e9.sq x.term.args) ar⟩
instance:Inhabited fu:=⟨⟨[],default⟩⟩
theorem fu.cP (x:fu):x.enc.cells=[.str x.var,.str x.term.name,.list none 2 (x.term.args.map aj.enc)]:=rfl
theorem fu.fold (x:fu):AV.agg [.str x.var,.str x.term.name,.list none 2 (x.term.args.map aj.enc)]=x.enc:=rfl
theorem fu.no (x:fu):x.enc.aL=x.enc:=rfl
theorem fu.dv (x:fu):x.enc.arg=true:=rfl
theorem fu.on (x:fu):x.enc.one=false:=rfl
theorem fu.nJ (x:fu):x.enc.res=true:=rfl
theorem fu.eqv (x:fu):(Enc.enc x:AV)=x.enc:=rfl
theorem fu.nK (l:List fu):(Enc.enc l:AV)=.list none 3 (l.map fu.enc):=rfl
structure fv where
 src:List UInt8
 dst:List UInt8
 neg:Bool
def fv.enc (x:fv):AV:=.agg [.str x.src,.str x.dst,.bool x.neg]
instance:Enc fv where
 sz:=3
 enc:=fv.enc
 arg _:=rfl
 can x:=by
  simp only [fv.enc,qW,List.map_cons,List.map_nil,AV.can,oA,List.map_map]
  skip
 inj x y h:=by
  simp only [fv.enc,AV.agg.injEq,List.cons.injEq,AV.str.injEq,AV.bool.injEq,AV.int.injEq,AV.list.injEq,true_and,and_true] at h
  obtain ⟨a0,R,aa⟩:=h
  have Ts:x.src=y.src:=a0
  have Tt:x.dst=y.dst:=R
  have xy:x.neg=y.neg:=aa
  cases x;cases y;simp only at Ts Tt xy;simp only [Ts,Tt,xy]
 mH _:=rfl
 eG x:=x.src.length≤M∧x.dst.length≤M
 kc {γ b off x} h:=by
  have h:=ss h
  simp only [fv.enc,AV.cells,List.mem_cons,List.not_mem_nil,or_false,forall_eq_or_imp,forall_eq] at h
  obtain ⟨⟨v0,gu⟩,⟨v1,an⟩,⟨v2,ar⟩⟩:=h
  exact ⟨e9.mM gu,e9.mM an⟩
 kd {g x v} h:=by
  obtain ⟨ws,rfl,R,_⟩:=aU.jD h
  have h:=su R
  simp only [List.mem_cons,List.not_mem_nil,or_false,forall_eq_or_imp,forall_eq] at h
  obtain ⟨⟨v0,gu⟩,⟨v1,an⟩,⟨v2,ar⟩⟩:=h
  exact ⟨e9.mN gu,e9.mN an⟩
instance:Inhabited fv:=⟨⟨[],[],false⟩⟩
theorem fv.cP (x:fv):x.enc.cells=[.str x.src,.str x.dst,.bool x.neg]:=rfl
theorem fv.fold (x:fv):AV.agg [.str x.src,.str x.dst,.bool x.neg]=x.enc:=rfl
theorem fv.no (x:fv):x.enc.aL=x.enc:=rfl
theorem fv.dv (x:fv):x.enc.arg=true:=rfl
theorem fv.on (x:fv):x.enc.one=false:=rfl
theorem fv.nJ (x:fv):x.enc.res=true:=rfl
theorem fv.eqv (x:fv):(Enc.enc x:AV)=x.enc:=rfl
theorem fv.nK (l:List fv):(Enc.enc l:AV)=.list none 3 (l.map fv.enc):=rfl
structure fw where
 name:List UInt8
 level:Int
def fw.enc (x:fw):AV:=.agg [.str x.name,.int .i64 x.level]
instance:Enc fw where
 sz:=2
 enc:=fw.enc
 arg _:=rfl
 can x:=by
  simp only [fw.enc,qW,List.map_cons,List.map_nil,AV.can,oA,List.map_map]
  skip
 inj x y h:=by
  simp only [fw.enc,AV.agg.injEq,List.cons.injEq,AV.str.injEq,AV.bool.injEq,AV.int.injEq,AV.list.injEq,true_and,and_true] at h
  obtain ⟨a0,R⟩:=h
  have xB:x.name=y.name:=a0
  have Tu:x.level=y.level:=R
  cases x;cases y;simp only at xB Tu;simp only [xB,Tu]
 mH _:=rfl
 eG x:=x.name.length≤M
 kc {γ b off x} h:=by
  have h:=ss h
  simp only [fw.enc,AV.cells,List.mem_cons,List.not_mem_nil,or_false,forall_eq_or_imp,forall_eq] at h
  obtain ⟨⟨v0,gu⟩,⟨v1,an⟩⟩:=h
  exact e9.mM gu
 kd {g x v} h:=by
  obtain ⟨ws,rfl,R,_⟩:=aU.jD h
  have h:=su R
  simp only [List.mem_cons,List.not_mem_nil,or_false,forall_eq_or_imp,forall_eq] at h
  obtain ⟨⟨v0,gu⟩,⟨v1,an⟩⟩:=h
  exact e9.mN gu
instance:Inhabited fw:=⟨⟨[],0⟩⟩
theorem fw.cP (x:fw):x.enc.cells=[.str x.name,.int .i64 x.level]:=rfl
theorem fw.fold (x:fw):AV.agg [.str x.name,.int .i64 x.level]=x.enc:=rfl
theorem fw.no (x:fw):x.enc.aL=x.enc:=rfl
theorem fw.dv (x:fw):x.enc.arg=true:=rfl
theorem fw.on (x:fw):x.enc.one=false:=rfl
theorem fw.nJ (x:fw):x.enc.res=true:=rfl
theorem fw.eqv (x:fw):(Enc.enc x:AV)=x.enc:=rfl
theorem fw.nK (l:List fw):(Enc.enc l:AV)=.list none 2 (l.map fw.enc):=rfl
structure fx where
 name:List UInt8
 args:Int
 head:Bool
 body:Bool
def fx.enc (x:fx):AV:=.agg [.str x.name,.int .i64 x.args,.bool x.head,.bool x.body]
instance:Enc fx where
 sz:=4
 enc:=fx.enc
 arg _:=rfl
 can x:=by
  simp only [fx.enc,qW,List.map_cons,List.map_nil,AV.can,oA,List.map_map]
  skip
 inj x y h:=by
  simp only [fx.enc,AV.agg.injEq,List.cons.injEq,AV.str.injEq,AV.bool.injEq,AV.int.injEq,AV.list.injEq,true_and,and_true] at h
  obtain ⟨a0,R,aa,al⟩:=h
  have xB:x.name=y.name:=a0
  have Tv:x.args=y.args:=R
  have xz:x.head=y.head:=aa
  have xA:x.body=y.body:=al
  cases x;cases y;simp only at xB Tv xz xA;simp only [xB,Tv,xz,xA]
 mH _:=rfl
 eG x:=x.name.length≤M
 kc {γ b off x} h:=by
  have h:=ss h
  simp only [fx.enc,AV.cells,List.mem_cons,List.not_mem_nil,or_false,forall_eq_or_imp,forall_eq] at h
  obtain ⟨⟨v0,gu⟩,⟨v1,an⟩,⟨v2,ar⟩,⟨hn,aO⟩⟩:=h
  exact e9.mM gu
 kd {g x v} h:=by
  obtain ⟨ws,rfl,R,_⟩:=aU.jD h
  have h:=su R
  simp only [List.mem_cons,List.not_mem_nil,or_false,forall_eq_or_imp,forall_eq] at h
  obtain ⟨⟨v0,gu⟩,⟨v1,an⟩,⟨v2,ar⟩,⟨hn,aO⟩⟩:=h
  exact e9.mN gu
instance:Inhabited fx:=⟨⟨[],0,false,false⟩⟩
theorem fx.cP (x:fx):x.enc.cells=[.str x.name,.int .i64 x.args,.bool x.head,.bool x.body]:=rfl
theorem fx.fold (x:fx):AV.agg [.str x.name,.int .i64 x.args,.bool x.head,.bool x.body]=x.enc:=rfl
theorem fx.no (x:fx):x.enc.aL=x.enc:=rfl
theorem fx.dv (x:fx):x.enc.arg=true:=rfl
theorem fx.on (x:fx):x.enc.one=false:=rfl
theorem fx.nJ (x:fx):x.enc.res=true:=rfl
theorem fx.eqv (x:fx):(Enc.enc x:AV)=x.enc:=rfl
theorem fx.nK (l:List fx):(Enc.enc l:AV)=.list none 4 (l.map fx.enc):=rfl
def qZ (P:Program) (gl:aR) (f:Nat) (vs:List AV) (H:List aM) (K:AV→List aM→Prop) (_:bA K):Prop:=jJ P gl f vs H K
def Tw (P:Program) (gl:aR) (v:AV) (vs:List AV) (H:List aM) (K:AV→List aM→Prop) (_:bA K):Prop:=match v with
 | .fn f eu=>jJ P gl f (vs++eu.map AV.aL) H K
 | _=>False
def oB (vs eu:List AV):Option (List AV):=q0 vs (l2 eu)
where q0:List AV→Option (List AV)→Option (List AV)
 | [],o=>o
 | x::r,o=>uW (some x) (q0 r o)
theorem anE (vs eu:List AV):oB vs eu=some (vs++eu.map AV.aL):=by
 unfold oB
 induction vs with
 | nil=>simp only [oB.q0,xw,List.nil_append]
 | cons x r ih=>simp only [oB.q0,ih,uW,List.cons_append]
section
variable {P:Program} {gl:aR} {D:cv} {f:Nat}
theorem anF {d:Option Nat} {xs:List aq} {s:ae} {K:ae→Prop} {t:bA K}:cO P gl D s K t (.bF d f xs)=c6 (dQ gl s.env xs) (fun vs=>c6 (l2 vs) (fun vs=>qZ P gl f vs s.heap (fun r H'=>c5 (({ s with heap:=H' }:ae).ef d r) K ⟨⟩) ⟨⟩) ⟨⟩) ⟨⟩:=by
 rw [Pt]
 cases dQ gl s.env xs with
 | none=>rfl
 | some vs =>
  show _=c6 (l2 vs) _ ⟨⟩
  rw [xw];rfl
theorem anG {d:Option Nat} {x:aq} {xs:List aq} {s:ae} {K:ae→Prop} {t:bA K}:cO P gl D s K t (.eU d x xs)=c6 (bl gl s.env x) (fun v=>c6 (dQ gl s.env xs) (fun vs=>c6 (l2 vs) (fun vs=>Tw P gl v vs s.heap (fun r H'=>c5 (({ s with heap:=H' }:ae).ef d r) K ⟨⟩) ⟨⟩) ⟨⟩) ⟨⟩) ⟨⟩:=by
 rw [Pu]
 cases bl gl s.env x with
 | none=>rfl
 | some v=>cases dQ gl s.env xs with
  | none=>cases v<;>rfl
  | some vs =>
   show _=c6 (l2 vs) _ ⟨⟩
   rw [xw]
   cases v<;>rfl
section
variable {s:ae} {d:Option Nat} {u:Nat} {vs:List AV} {K:ae→Prop} {tg:bA K}
end
theorem anH {p:Prop} [Decidable p] {A:Prop} (h:p):(if p then A else False)=A:=if_pos h
theorem anI {eu vs:List AV} {H:List aM} {K:AV→List aM→Prop} {tg:bA K}:Tw P gl (.fn f eu) vs H K tg=c6 (oB vs eu) (fun vs=>qZ P gl f vs H K ⟨⟩) ⟨⟩:=by
 rw [anE];rfl
theorem anJ {o:Option (List AV)}:oB.q0 [] o=o:=_root_.id rfl
theorem anK {x:AV} {r:List AV} {o:Option (List AV)}:oB.q0 (x::r) o=uW (some x) (oB.q0 r o):=_root_.id rfl
theorem anL {vs eu:List AV}:oB vs eu=oB.q0 vs (l2 eu):=_root_.id rfl
theorem anM {vs:List AV} {H:List aM} {K K':AV→List aM→Prop} {tg:bA K} (h:jJ P gl f vs H K') (ab:∀r H',K' r H'→K r H'):qZ P gl f vs H K tg:=h.mono ab
theorem mO {vs:List AV} {H H':List aM} {r:AV} {K:AV→List aM→Prop} {tg:bA K} (h:ec P gl f vs H fun cQ anN=>cQ=r∧anN=H') (ab:K r H'):qZ P gl f vs H K tg :=
 ⟨h.mono fun _ _ ⟨aB,aI⟩=>by rw [aB,aI];exact ab,r,H',ab⟩
theorem anO {vs:List AV} {H:List aM} {r:AV} {K:AV→List aM→Prop} {tg:bA K} (aP:hQ P f=true) (aZ:vs.all AV.arg=true) (af:a4 P gl f vs r) (ab:K r H):qZ P gl f vs H K tg :=
 mO (ec.O4 aP aZ af) ab
variable {α β mK xv:Type} [Enc α] [Enc β] [Enc mK] [Enc xv]
theorem anP {x y:AV} {a:α} {b:β} {r:AV} {H:List aM} {K:AV→List aM→Prop} {tg:bA K} [R:cj x a] [aa:cj y b] (aP:hQ P f=true) (af:a4 P gl f [enc a,enc b] r) (ab:K r H):qZ P gl f [x,y] H K tg :=
 anO aP (by simp only [List.all_cons,R.arg,aa.arg,List.all_nil,Bool.and_self]) (af.args (.cons R.qX (.cons aa.qX .nil))) ab
end
theorem aj.ind {p:aj→Prop} (h:∀t,(∀u∈t.args,p u)→p t):∀t,p t
 | .mk n l=>h (.mk n l) (go h l)
where go {p:aj→Prop} (h:∀t,(∀u∈t.args,p u)→p t):∀l:List aj,∀u∈l,p u
 | [],u,hu=>by cases hu
 | t::r,u,hu=>by
  rcases List.mem_cons.1 hu with e | hu
  ·rw [e];exact aj.ind h t
  ·exact go h r u hu
attribute [go_sem ↓ 2000] anF anG
attribute [go_sem 2000] anH anI anJ anK anL
attribute [go_sem 2000] Lit.cP Lit.fold Lit.no Lit.dv Lit.on Lit.nJ Lit.eqv Lit.nK ft.cP ft.fold ft.no ft.dv ft.on ft.nJ ft.eqv ft.nK fu.cP fu.fold fu.no fu.dv fu.on fu.nJ fu.eqv fu.nK fv.cP fv.fold fv.no fv.dv fv.on fv.nJ fv.eqv fv.nK fw.cP fw.fold fw.no fw.dv fw.on fw.nJ fw.eqv fw.nK fx.cP fx.fold fx.no fx.dv fx.on fx.nJ fx.eqv fx.nK
end AM
/-! Depth, parts without arguments and variables of terms, as functions. -/
namespace AM
open Go
mutual
def Tx:aj→Nat | .mk _ l=>Ty l+1
def Ty:List aj→Nat | []=>0 | t::r=>max (Tx t) (Ty r)
end
mutual
def Tz:aj→List cK | .mk n l=>match l with | []=>[n] | t::r=>Tz t++Kf r
def Kf:List aj→List cK | []=>[] | t::r=>Tz t++Kf r
end
def TA (s:cK):List cK→Nat→Int
 | [],_=>-1
 | t::r,i=>if t=s then i else TA s r (i+1)
def aq8 (s:cK) (l:List cK):Int:=TA s l 0
def an1 (out:List cK) (s:cK):List cK:=if iP s&&!out.contains s then out++[s] else out
def an2 (l:List cK):List cK:=l.foldl an1 []
def aq9 (l:List aj):List cK:=an2 (Kf l)
end AM
/-! The order of terms is total, and only equal terms are alike in it. -/
namespace AM
open Go
theorem Kg (a b:Nat):eo b a = - eo a b:=by unfold eo;split<;>split<;>omega
theorem TD:∀a b:cK,da b a = - da a b
 | [],[]=>rfl
 | [],_::_=>rfl
 | _::_,[]=>rfl
 | x::r,y::t=>by
  simp only [da]
  by_cases h:x=y
  ·subst h;simp only [if_true];exact TD r t
  ·rw [if_neg h,if_neg (fun e=>h e.symm)]
   have:x.toNat≠y.toNat:=fun e=>h (UInt8.toNat_inj.1 e)
   by_cases R:x<y
   ·have lE:=UInt8.lt_iff_toNat_lt.1 R
    rw [if_pos R,if_neg (fun e=>by have:=UInt8.lt_iff_toNat_lt.1 e;omega)];rfl
   ·have lE:¬x.toNat<y.toNat:=fun e=>R (UInt8.lt_iff_toNat_lt.2 e)
    rw [if_neg R,if_pos (UInt8.lt_iff_toNat_lt.2 (by omega))]
theorem TE:∀a b c:cK,da a b<0→da b c<0→da a c<0
 | [],[],_,h,_=>by simp [da] at h
 | [],_::_,[],_,h=>by simp [da] at h
 | [],_::_,_::_,_,_=>by simp [da]
 | _::_,[],_,h,_=>by simp [da] at h
 | _::_,_::_,[],_,h=>by simp [da] at h
 | x::r,y::t,z::u,R,aa=>by
  simp only [da] at R aa ⊢
  by_cases aB:x=y
  ·subst aB
   simp only [if_true] at R
   by_cases aI:x=z
   ·subst aI;simp only [if_true] at aa ⊢;exact TE r t u R aa
   ·rw [if_neg aI] at aa ⊢;exact aa
  ·rw [if_neg aB] at R
   by_cases aI:y=z
   ·subst aI;rw [if_neg aB];exact R
   ·rw [if_neg aI] at aa
    have de:x.toNat<y.toNat:=by
     by_cases h:x<y
     ·exact UInt8.lt_iff_toNat_lt.1 h
     ·rw [if_neg h] at R;omega
    have dR:y.toNat<z.toNat:=by
     by_cases h:y<z
     ·exact UInt8.lt_iff_toNat_lt.1 h
     ·rw [if_neg h] at aa;omega
    rw [if_neg (fun e=>by subst e;omega),if_pos (UInt8.lt_iff_toNat_lt.2 (by omega))];omega
theorem gj {c:UInt8} (h:du c=true):48≤c.toNat∧c.toNat≤57:=by simpa [du] using h
theorem an3 {s t:cK} {n:Nat} (R:gV s=some n) (aa:gV t=some n):s=t:=by
 have key:∀s:cK,gV s=some n→(∃a,s=[a]∧du a=true∧n=a.toNat - 48)∨(∃a b,s=[a,b]∧du a=true∧du b=true∧49≤a.toNat∧n=10*(a.toNat - 48)+(b.toNat - 48)) ∨
   (∃a b c,s=[a,b,c]∧du a=true∧du b=true∧du c=true∧49≤a.toNat∧n=10*(10*(a.toNat - 48)+(b.toNat - 48))+(c.toNat - 48)) ∨
   (∃a b c d,s=[a,b,c,d]∧du a=true∧du b=true∧du c=true∧du d=true∧49≤a.toNat∧n=10*(10*(10*(a.toNat - 48)+(b.toNat - 48))+(c.toNat - 48))+(d.toNat - 48)):=by
  intro s h
  unfold gV at h
  split at h
  ·cases h
  ·rename_i x r
   split at h
   ·rename_i bc
    obtain ⟨aN,bx,aw⟩:=bc
    simp only [Option.some.injEq] at h
    have sv:r≠[]→du x=true→49≤x.toNat:=fun aA ai=>by
     have:=gj ai
     have lY:x≠48:=fun e=>bx ⟨e,aA⟩
     have:x.toNat≠48:=fun e=>lY (UInt8.toNat_inj.1 (by rw [e];rfl))
     omega
    match r,aN,aw,h,sv with
    | [],_,aw,h,_=>simp at aw;exact .inl ⟨x,rfl,aw,by simpa [fE] using h.symm⟩
    | [b],_,aw,h,sv=>simp at aw;exact .inr (.inl ⟨x,b,rfl,aw.1,aw.2,sv (by simp) aw.1,by simpa [fE] using h.symm⟩)
    | [b,c],_,aw,h,sv=>simp at aw;exact .inr (.inr (.inl ⟨x,b,c,rfl,aw.1,aw.2.1,aw.2.2,sv (by simp) aw.1,by simpa [fE] using h.symm⟩))
    | [b,c,d],_,aw,h,sv=>simp at aw;exact .inr (.inr (.inr ⟨x,b,c,d,rfl,aw.1,aw.2.1,aw.2.2.1,aw.2.2.2,sv (by simp) aw.1,by simpa [fE] using h.symm⟩))
    | _::_::_::_::_,aN,_,_,_=>simp at aN
   ·cases h
 have e:∀{a b:UInt8},a.toNat=b.toNat→a=b:=fun h=>UInt8.toNat_inj.1 h
 rcases key s R with ⟨a,rfl,d1,v1⟩ | ⟨a,b,rfl,d1,d2,h2,v1⟩ | ⟨a,b,c,rfl,d1,d2,d3,h2,v1⟩ | ⟨a,b,c,d,rfl,d1,d2,d3,d4,h2,v1⟩ <;>
 rcases key t aa with ⟨bO,rfl,aB,b3⟩ | ⟨bO,bE,rfl,aB,aI,eA,b3⟩ | ⟨bO,bE,fg,rfl,aB,aI,dS,eA,b3⟩ | ⟨bO,bE,fg,ho,rfl,aB,aI,dS,h1,eA,b3⟩ <;>
 first
  | (exfalso;have:=gj d1;have:=gj aB;(try have:=gj d2);(try have:=gj aI);(try have:=gj d3);(try have:=gj dS);(try have:=gj d4);(try have:=gj h1);omega)
  | (have:=gj d1;have:=gj aB;rw [e (a:=a) (b:=bO) (by omega)])
  | (have:=gj d1;have:=gj aB;have:=gj d2;have:=gj aI;rw [e (a:=a) (b:=bO) (by omega),e (a:=b) (b:=bE) (by omega)])
  | (have:=gj d1;have:=gj aB;have:=gj d2;have:=gj aI;have:=gj d3;have:=gj dS;rw [e (a:=a) (b:=bO) (by omega),e (a:=b) (b:=bE) (by omega),e (a:=c) (b:=fg) (by omega)])
  | (have:=gj d1;have:=gj aB;have:=gj d2;have:=gj aI;have:=gj d3;have:=gj dS;have:=gj d4;have:=gj h1;rw [e (a:=a) (b:=bO) (by omega),e (a:=b) (b:=bE) (by omega),e (a:=c) (b:=fg) (by omega),e (a:=d) (b:=ho) (by omega)])
theorem TF {t:aj} (h:gi t=0):t.args=[]∧gV t.name=some (hT t.name):=by
 refine ⟨JU (by omega),?_⟩
 unfold gi at h
 split at h
 ·omega
 ·split at h
  ·rename_i aa
   rw [hT];cases a1:gV t.name with
   | none=>rw [a1] at aa;cases aa
   | some n=>rfl
  ·split at h<;>omega
theorem Kh (a b:Nat):eo a b<0↔a<b:=by unfold eo;split<;>(try split)<;>omega
theorem Ki (a b:Nat):eo a b=0↔a=b:=by unfold eo;split<;>(try split)<;>omega
theorem an4 (c d v w pQ pR:Nat) (s l:Int):nF c d v w pQ pR s l<0↔c<d∨c=d∧(c=0∧v<w∨c≠0∧(pQ<pR∨pQ=pR∧(s<0∨s=0∧l<0))):=by
 unfold nF
 split
 ·rw [Kh];omega
 ·split
  ·rw [Kh];omega
  ·split
   ·rw [Kh];omega
   ·split<;>omega
theorem TG (c d v w pQ pR:Nat) (s l:Int):nF c d v w pQ pR s l=0↔c=d∧(c=0∧v=w∨c≠0∧pQ=pR∧s=0∧l=0):=by
 unfold nF
 split
 ·rw [Ki];omega
 ·split
  ·rw [Ki];omega
  ·split
   ·rw [Ki];omega
   ·split<;>omega
theorem TH:∀l m:List aj,(∀t∈l,∀u,bJ u t = - bJ t u)→dm m l = - dm l m
 | [],[],_=>by simp [dm]
 | [],_::_,_=>by simp [dm]
 | _::_,[],_=>by simp [dm]
 | t::r,u::v,h=>by
  simp only [dm]
  have R:=h t (by simp) u
  have aa:=TH r v fun x ai=>h x (by simp [ai])
  by_cases e:bJ t u=0
  ·rw [if_pos e,if_pos (by omega)];exact aa
  ·rw [if_neg e,if_neg (by omega)];exact R
theorem xC:∀t u:aj,bJ u t = - bJ t u:=aj.ind fun t ih u=>by
 rw [uR t u,uR u t,TH t.args u.args ih,TD t.name u.name]
 unfold nF
 have de:=Kg (gi t) (gi u)
 have dR:=Kg (hT t.name) (hT u.name)
 have r2:=Kg t.args.length u.args.length
 by_cases aB:gi t=gi u
 ·simp only [aB,ne_eq,not_true_eq_false,if_false]
  by_cases aI:gi u=0
  ·simp only [aI,if_true];exact dR
  ·simp only [aI,if_false]
   by_cases dS:t.args.length=u.args.length
   ·simp only [dS,not_true_eq_false,if_false]
    by_cases h1:da t.name u.name=0
    ·simp only [h1,Int.neg_zero,not_true_eq_false,if_false]
    ·rw [if_pos (by omega),if_pos h1]
   ·rw [if_pos (fun e=>dS e.symm),if_pos dS];exact r2
 ·rw [if_pos (fun e=>aB e.symm),if_pos aB];exact de
theorem AQ:∀l m:List aj,(∀t∈l,∀u,bJ t u=0→t=u)→dm l m=0→l=m
 | [],[],_,_=>rfl
 | [],_::_,_,h=>by simp [dm] at h
 | _::_,[],_,h=>by simp [dm] at h
 | t::r,u::v,bc,h=>by
  simp only [dm] at h
  by_cases e:bJ t u=0
  ·rw [if_pos e] at h
   rw [bc t (by simp) u e,AQ r v (fun x ai=>bc x (by simp [ai])) h]
  ·rw [if_neg e] at h;exact absurd h e
theorem q1:∀t u:aj,bJ t u=0→t=u:=aj.ind fun t ih u h=>by
 rw [uR,TG] at h
 obtain ⟨R,aa⟩:=h
 rw [←t.eta,←u.eta]
 rcases aa with ⟨aa,al⟩ | ⟨_,al,aY,bn⟩
 ·have a:=TF aa
  have b:=TF (t:=u) (by omega)
  rw [a.1,b.1,an3 a.2 (by rw [al];exact b.2)]
 ·rw [pP.1 aY,AQ _ _ ih bn]
theorem TI:∀l:List aj,(∀t∈l,bJ t t=0)→dm l l=0
 | [],_=>by simp [dm]
 | t::r,h=>by simp only [dm,h t (by simp),if_true];exact TI r fun x ai=>h x (by simp [ai])
theorem TJ:∀t:aj,bJ t t=0:=aj.ind fun t ih=>by
 rw [uR,TG]
 have:=TI t.args ih
 have:da t.name t.name=0:=pP.2 rfl
 refine ⟨rfl,?_⟩
 by_cases h:gi t=0
 ·exact .inl ⟨h,rfl⟩
 ·exact .inr ⟨h,rfl,by assumption,by assumption⟩
theorem TK:∀l m k:List aj,(∀t∈l,∀u v,bJ t u<0→bJ u v<0→bJ t v<0)→dm l m<0→dm m k<0→dm l k<0
 | [],[],_,_,h,_=>by simp [dm] at h
 | [],_::_,[],_,_,h=>by simp [dm] at h
 | [],_::_,_::_,_,_,_=>by simp [dm]
 | _::_,[],_,_,h,_=>by simp [dm] at h
 | _::_,_::_,[],_,_,h=>by simp [dm] at h
 | t::r,u::v,w::x,bc,R,aa=>by
  simp only [dm] at R aa ⊢
  by_cases aB:bJ t u=0
  ·have:=q1 _ _ aB;subst this
   rw [if_pos aB] at R
   by_cases aI:bJ t w=0
   ·rw [if_pos aI] at aa ⊢;exact TK r v x (fun y aT=>bc y (by simp [aT])) R aa
   ·rw [if_neg aI] at aa ⊢;exact aa
  ·rw [if_neg aB] at R
   by_cases aI:bJ u w=0
   ·have:=q1 _ _ aI;subst this
    rw [if_neg aB];exact R
   ·rw [if_neg aI] at aa
    have:=bc t (by simp) u w R aa
    rw [if_neg (by omega)];exact this
theorem xD:∀t u v:aj,bJ t u<0→bJ u v<0→bJ t v<0:=aj.ind fun t ih u v R aa=>by
 have dy:=TK t.args u.args v.args ih
 have q2:dm t.args u.args<0→u.args=v.args→dm t.args v.args<0:=fun h e=>e▸h
 have h2:dm t.args u.args=0→t.args=u.args:=AQ _ _ fun x _ y=>q1 x y
 have rE:dm u.args v.args=0→u.args=v.args:=AQ _ _ fun x _ y=>q1 x y
 have fZ:=TE t.name u.name v.name
 have e5:=pP (a:=t.name) (b:=u.name)
 have eQ:=pP (a:=u.name) (b:=v.name)
 have kN:=pP (a:=t.name) (b:=v.name)
 have arb:da t.name u.name=0→da t.name v.name=da u.name v.name:=fun h=>by rw [e5.1 h]
 have OO:da u.name v.name=0→da t.name v.name=da t.name u.name:=fun h=>by rw [eQ.1 h]
 rw [uR,an4] at R aa ⊢
 clear h2 rE q2 e5 eQ kN
 omega
end AM
/-! Sorting in place by insertion and by merging: the laws of the lists. -/
namespace AM
open Go
section
set_option linter.unusedSectionVars false
set_option linter.unusedVariables false
variable {α:Type} [Inhabited α]
theorem u2 (l:List α) (k:Nat):l[k]! = (l[k]?).getD default:=by simp [List.getElem!_eq_getElem?_getD]
def iy (l:List α) (i j:Nat):List α:=(l.set i l[j]!).set j l[i]!
theorem xE (l:List α) (i j:Nat):(iy l i j).length=l.length:=by simp [iy]
theorem xF {l:List α} {i j:Nat} (av:i<l.length) (a6:j<l.length) (k:Nat):(iy l i j)[k]! = if k=j then l[i]! else if k=i then l[j]! else l[k]!:=by
 simp only [iy,u2 _ k,List.getElem?_set,List.length_set]
 by_cases R:k=j
 ·subst R;simp [a6]
 ·rw [if_neg (fun e=>R e.symm),if_neg R]
  by_cases aa:k=i
  ·subst aa;simp [av]
  ·rw [if_neg (fun e=>aa e.symm),if_neg aa]
structure c1 (l cx:List α) (a b:Nat):Prop where
 len:cx.length=l.length
 out:∀k,¬(a≤k∧k<b)→cx[k]! = l[k]!
 u3:∀k,a≤k→k<b→∃k',a≤k'∧k'<b∧cx[k]! = l[k']!
 AR:∀k,a≤k→k<b→∃k',a≤k'∧k'<b∧l[k]! = cx[k']!
theorem c1.refl (l:List α) (a b:Nat):c1 l l a b:=⟨rfl,fun _ _=>rfl,fun k R aa=>⟨k,R,aa,rfl⟩,fun k R aa=>⟨k,R,aa,rfl⟩⟩
theorem c1.trans {l m n:List α} {a b:Nat} (R:c1 l m a b) (aa:c1 m n a b):c1 l n a b:=by
 refine ⟨aa.len.trans R.len,fun k h=>(aa.out k h).trans (R.out k h),fun k aZ ah=>?_,fun k aZ ah=>?_⟩
 ·obtain ⟨bN,an,ar,aO⟩:=aa.u3 k aZ ah
  obtain ⟨cb,bf,bu,b5⟩:=R.u3 bN an ar
  exact ⟨cb,bf,bu,aO.trans b5⟩
 ·obtain ⟨bN,an,ar,aO⟩:=R.AR k aZ ah
  obtain ⟨cb,bf,bu,b5⟩:=aa.AR bN an ar
  exact ⟨cb,bf,bu,aO.trans b5⟩
theorem c1.mono {l m:List α} {a b bO bE:Nat} (h:c1 l m a b) (R:bO≤a) (aa:b≤bE):c1 l m bO bE:=by
 refine ⟨h.len,fun k ab=>h.out k (by omega),fun k aZ ah=>?_,fun k aZ ah=>?_⟩
 ·by_cases ab:a≤k∧k<b
  ·obtain ⟨bN,an,ar,aO⟩:=h.u3 k ab.1 ab.2
   exact ⟨bN,by omega,by omega,aO⟩
  ·exact ⟨k,aZ,ah,h.out k ab⟩
 ·by_cases ab:a≤k∧k<b
  ·obtain ⟨bN,an,ar,aO⟩:=h.AR k ab.1 ab.2
   exact ⟨bN,by omega,by omega,aO⟩
  ·exact ⟨k,aZ,ah,(h.out k ab).symm⟩
theorem c1.iy {l:List α} {i j a b:Nat} (R:a≤i) (aa:i<b) (al:a≤j) (aY:j<b) (bn:b≤l.length):c1 l (iy l i j) a b:=by
 have aK:=xF (l:=l) (i:=i) (j:=j) (by omega) (by omega)
 refine ⟨xE _ _ _,fun k ab=>?_,fun k aZ ah=>?_,fun k aZ ah=>?_⟩
 ·rw [aK,if_neg (by omega),if_neg (by omega)]
 ·rw [aK]
  split
  ·exact ⟨i,R,aa,rfl⟩
  ·split
   ·exact ⟨j,al,aY,rfl⟩
   ·exact ⟨k,aZ,ah,rfl⟩
 ·by_cases aB:k=i
  ·exact ⟨j,al,aY,by rw [aK,if_pos rfl,aB]⟩
  ·by_cases aI:k=j
   ·exact ⟨i,R,aa,by rw [aK];split<;>rename_i h<;>simp_all⟩
   ·exact ⟨k,aZ,ah,by rw [aK,if_neg aI,if_neg aB]⟩
theorem an5 {l m:List α} (R:l.length=m.length) (aa:∀k:Nat,l[k]! = m[k]!):l=m:=by
 refine List.ext_getElem R fun i a b=>?_
 have:=aa i
 simpa [a,b] using this
structure nL (c:α→α→Int):Prop where
 neg:∀x y,c y x = - c x y
 an6:∀x y z,c x y<0→c y z<0→c x z<0
 zero:∀x y,c x y=0→x=y
theorem nL.le {c:α→α→Int} (T:nL c) {x y z:α} (R:c x y≤0) (aa:c y z≤0):c x z≤0:=by
 by_cases aB:c x y=0
 ·rw [T.zero _ _ aB];exact aa
 ·by_cases aI:c y z=0
  ·rw [←T.zero _ _ aI];exact R
  ·have:=T.an6 x y z (by omega) (by omega);omega
theorem nL.refl {c:α→α→Int} (T:nL c) (x:α):c x x=0:=by have:=T.neg x x;omega
variable {c:α→α→Int}
def di (c:α→α→Int) (l:List α) (a b:Nat):Prop:=∀p q,a≤p→p<q→q<b→c l[p]! l[q]!≤0
theorem di.congr {l m:List α} {a b:Nat} (h:di c l a b) (he:∀k,a≤k→k<b→m[k]! = l[k]!):di c m a b:=fun p q R aa al=>by
 rw [he p R (by omega),he q (by omega) al];exact h p q R aa al
theorem di.sub {l:List α} {a b bO bE:Nat} (h:di c l a b) (R:a≤bO) (aa:bE≤b):di c l bO bE:=fun p q an ar aO=>h p q (by omega) ar (by omega)
theorem di.out {l m:List α} {a b x y:Nat} (h:di c l a b) (aS:c1 l m x y) (aw:b≤x∨y≤a):di c m a b:=h.congr fun k R aa=>aS.out k (by omega)
theorem di.join {l:List α} {a m b:Nat} (R:di c l a m) (aa:di c l m b) (h:∀p q,a≤p→p<m→m≤q→q<b→c l[p]! l[q]!≤0):di c l a b:=fun p q an ar aO=>by
 by_cases aB:q<m
 ·exact R p q an ar aB
 ·by_cases aI:p<m
  ·exact h p q an aI (by omega) aO
  ·exact aa p q (by omega) ar aO
def l3 (c:α→α→Int) (l:List α) (a i j:Nat):Prop:=∀p q,a≤p→p<q→q≤i→q≠j→c l[p]! l[q]!≤0
theorem l3.start {l:List α} {a i:Nat} (h:di c l a i):l3 c l a i i:=fun p q R aa al aY=>h p q R aa (by omega)
theorem l3.step {l:List α} {a i j:Nat} (h:l3 c l a i j) (R:a<j) (aa:j≤i) (al:i<l.length) (af:c l[j]! l[j - 1]!≤0):l3 c (iy l j (j - 1)) a i (j - 1):=fun p q an ar aO bD=>by
 have aK:=xF (l:=l) (i:=j) (j:=j - 1) (by omega) (by omega)
 rw [aK p,aK q,if_neg bD]
 by_cases aB:q=j
 ·rw [if_pos aB]
  by_cases aI:p=j - 1
  ·rw [if_pos aI];exact af
  ·rw [if_neg aI,if_neg (by omega)];exact h p (j - 1) an (by omega) (by omega) (by omega)
 ·rw [if_neg aB]
  by_cases aI:p=j - 1
  ·rw [if_pos aI];exact h j q (by omega) (by omega) aO aB
  ·rw [if_neg aI]
   by_cases dS:p=j
   ·rw [if_pos dS];exact h (j - 1) q (by omega) (by omega) aO aB
   ·rw [if_neg dS];exact h p q an ar aO aB
theorem l3.TL {l:List α} {a i:Nat} (h:l3 c l a i a):di c l a (i+1):=fun p q R aa al=>h p q R aa (by omega) (by omega)
theorem l3.TM (T:nL c) {l:List α} {a i j:Nat} (h:l3 c l a i j) (R:a<j) (af:¬c l[j]! l[j - 1]! < 0):di c l a (i+1):=fun p q an ar aO=>by
 have hz:c l[j - 1]! l[j]!≤0:=by have:=T.neg l[j]! l[j - 1]!;omega
 by_cases e:q=j
 ·subst e
  by_cases aI:p=q - 1
  ·subst aI;exact hz
  ·exact T.le (h p (q - 1) an (by omega) (by omega) (by omega)) hz
 ·exact h p q an ar (by omega) e
def mP (l:List α) (a b:Nat):Nat→List α
 | 0=>l
 | i+1=>iy (mP l a b i) (a+i) (b+i)
theorem sw (l:List α) (a b:Nat):∀n,(mP l a b n).length=l.length
 | 0=>rfl
 | n+1=>by rw [mP,xE,sw l a b n]
theorem AS (l:List α) (a b:Nat):∀n,a+n≤b→b+n≤l.length→∀k,(mP l a b n)[k]! = if a≤k∧k<a+n then l[b+(k - a)]! else if b≤k∧k<b+n then l[a+(k - b)]! else l[k]!
 | 0,_,_,k=>by
  show l[k]! = _
  ((repeat' split)<;>first | rfl | (exfalso;omega) | (congr 1<;>omega))
 | n+1,R,aa,k=>by
  have ih:=AS l a b n (by omega) (by omega)
  rw [mP,xF (by rw [sw];omega) (by rw [sw];omega),ih k,ih (a+n),ih (b+n)]
  ((repeat' split)<;>first | rfl | (exfalso;omega) | (congr 1<;>omega))
def jr (l:List α) (a m b k:Nat):α:=if a≤k∧k<a+(b - m) then l[m+(k - a)]! else if a+(b - m)≤k∧k<b then l[k - (b - m)]! else l[k]!
def l4 (ix l:List α) (a m b i j:Nat):Prop:=∀k,jr ix a m b k=if m - i≤k∧k<m - i+j then l[m+(k - (m - i))]! else if m - i+j≤k∧k<m+j then l[k - j]! else l[k]!
theorem l4.start {l:List α} {a m b:Nat} (R:a≤m) (aa:m≤b):l4 l l a m b (m - a) (b - m):=fun k=>by
 unfold jr
 rw [show m - (m - a)=a by omega,show m+(b - m)=b by omega]
theorem l4.left {ix l:List α} {a m b i j:Nat} (h:l4 ix l a m b i j) (R:j<i) (aa:i≤m) (al:m+j≤l.length):l4 ix (mP l (m - i) m j) a m b (i - j) j:=fun k=>by
 have aK:=AS l (m - i) m j (by omega) al
 rw [h k,aK k,aK (m+(k - (m - (i - j)))),aK (k - j)]
 ((repeat' split)<;>first | rfl | (exfalso;omega) | (congr 1<;>omega))
theorem l4.right {ix l:List α} {a m b i j:Nat} (h:l4 ix l a m b i j) (R:i<j) (aa:i≤m) (al:m+j≤l.length):l4 ix (mP l (m - i) (m+j - i) i) a m b i (j - i):=fun k=>by
 have aK:=AS l (m - i) (m+j - i) i (by omega) (by omega)
 rw [h k,aK k,aK (m+(k - (m - i))),aK (k - (j - i))]
 ((repeat' split)<;>first | rfl | (exfalso;omega) | (congr 1<;>omega))
theorem l4.stop {ix l:List α} {a m b i:Nat} (h:l4 ix l a m b i i) (aa:i≤m) (al:m+i≤l.length) (k:Nat):(mP l (m - i) m i)[k]! = jr ix a m b k:=by
 rw [h k,AS l (m - i) m i (by omega) al]
 ((repeat' split)<;>first | rfl | (exfalso;omega) | (congr 1<;>omega))
theorem an7 {l cx:List α} {a m b:Nat} (R:a≤m) (aa:m≤b) (aN:cx.length=l.length) (h:∀k,cx[k]! = jr l a m b k):c1 l cx a b:=by
 refine ⟨aN,fun k ab=>?_,fun k aZ ah=>?_,fun k aZ ah=>?_⟩
 ·rw [h,jr,if_neg (by omega),if_neg (by omega)]
 ·rw [h,jr]
  split
  ·exact ⟨_,by omega,by omega,rfl⟩
  ·split
   ·exact ⟨_,by omega,by omega,rfl⟩
   ·exact ⟨_,aZ,ah,rfl⟩
 ·by_cases e:k<m
  ·refine ⟨k+(b - m),by omega,by omega,?_⟩
   rw [h,jr,if_neg (by omega),if_pos (by omega)];congr 1;omega
  ·refine ⟨a+(k - m),by omega,by omega,?_⟩
   rw [h,jr,if_pos (by omega)];congr 1;omega
theorem an8 (T:nL c) {l cT:List α} {a m b s a7:Nat} (R:a<m) (aa:m<b) (mZ:a7=(a+b) / 2) (fK:di c l a m) (qH:di c l m b)
  (an:a≤s) (ar:s≤m) (aO:s≤a7) (bD:a7+m≤s+b)
  (dk:s=a∨a7+m=s+b∨¬c l[a7+m - 1 - (s - 1)]! l[s - 1]! < 0) (fZ:s=m∨s=a7∨c l[a7+m - 1 - s]! l[s]! < 0) (aN:∀k,cT[k]! = jr l s m (a7+m - s) k) :
  di c cT a s∧di c cT s a7∧di c cT a7 (a7+m - s)∧di c cT (a7+m - s) b∧∀p q,a≤p→p<a7→a7≤q→q<b→c cT[p]! cT[q]!≤0:=by
 have bX:∀k,k<s→cT[k]! = l[k]!:=fun k h=>by rw [aN,jr,if_neg (by omega),if_neg (by omega)]
 have bQ:∀k,s≤k→k<a7→cT[k]! = l[m+(k - s)]!:=fun k h cC=>by rw [aN,jr,if_pos (by omega)]
 have wT:∀k,a7≤k→k<a7+m - s→cT[k]! = l[k - (a7 - s)]!:=fun k h cC=>by
  rw [aN,jr,if_neg (by omega),if_pos (by omega)];congr 1;omega
 have AT:∀k,a7+m - s≤k→cT[k]! = l[k]!:=fun k h=>by rw [aN,jr,if_neg (by omega),if_neg (by omega)]
 refine ⟨fun p q cr cX eX=>?_,fun p q cr cX eX=>?_,fun p q cr cX eX=>?_,fun p q cr cX eX=>?_,fun p q cr cX eX kM=>?_⟩
 ·rw [bX p (by omega),bX q eX];exact fK p q cr cX (by omega)
 ·rw [bQ p cr (by omega),bQ q (by omega) eX];exact qH _ _ (by omega) (by omega) (by omega)
 ·rw [wT p cr (by omega),wT q (by omega) eX];exact fK _ _ (by omega) (by omega) (by omega)
 ·rw [AT p cr,AT q (by omega)];exact qH p q (by omega) cX eX
 ·have Kj:∀{p q:Nat},a≤p→p≤q→q<m→c l[p]! l[q]!≤0:=fun {p q} x y z=>by
   by_cases e:p=q
   ·subst e;rw [T.refl];exact Int.le_refl 0
   ·exact fK p q x (by omega) z
  have Kk:∀{p q:Nat},m≤p→p≤q→q<b→c l[p]! l[q]!≤0:=fun {p q} x y z=>by
   by_cases e:p=q
   ·subst e;rw [T.refl];exact Int.le_refl 0
   ·exact qH p q x (by omega) z
  by_cases aB:p<s
  ·rw [bX p aB]
   by_cases aI:q<a7+m - s
   ·rw [wT q eX aI];exact Kj (by omega) (by omega) (by omega)
   ·rw [AT q (by omega)]
    have af:c l[s - 1]! l[a7+m - 1 - (s - 1)]!≤0:=by
     rcases dk with h | h | h
     ·omega
     ·omega
     ·have:=T.neg l[s - 1]! l[a7+m - 1 - (s - 1)]!;omega
    exact T.le (Kj (by omega) (by omega) (by omega)) (T.le af (Kk (by omega) (by omega) kM))
  ·rw [bQ p (by omega) cX]
   by_cases aI:q<a7+m - s
   ·rw [wT q eX aI]
    have af:c l[a7+m - 1 - s]! l[s]!≤0:=by
     rcases fZ with h | h | h
     ·omega
     ·omega
     ·omega
    exact T.le (Kk (by omega) (by omega) (by omega)) (T.le af (Kj (by omega) (by omega) (by omega)))
   ·rw [AT q (by omega)];exact Kk (by omega) (by omega) kM
theorem an9 {cT cn fC:List α} {a a7 b:Nat} (R:c1 cT cn a a7) (aa:c1 cn fC a7 b) (fK:di c cn a a7) (qH:di c fC a7 b)
  (af:∀p q,a≤p→p<a7→a7≤q→q<b→c cT[p]! cT[q]!≤0):di c fC a b:=by
 refine di.join (fK.out aa (.inl (Nat.le_refl _))) qH fun p q cr cX eX kM=>?_
 rw [aa.out p (by omega)]
 obtain ⟨aoa,bf,bu,b5⟩:=R.u3 p cr cX
 obtain ⟨TN,s1,s2,lN⟩:=aa.u3 q eX kM
 rw [b5,lN,R.out TN (by omega)]
 exact af aoa TN bf bu s1 s2
def oD (l:List α) (a:Nat):Nat→List α
 | 0=>l
 | i+1=>iy (oD l a i) (a+i) (a+i+1)
theorem xG (l:List α) (a:Nat):∀n,(oD l a n).length=l.length
 | 0=>rfl
 | n+1=>by rw [oD,xE,xG l a n]
theorem TO (l:List α) (a:Nat):∀n,a+n<l.length→∀k,(oD l a n)[k]! = if a≤k∧k<a+n then l[k+1]! else if k=a+n then l[a]! else l[k]!
 | 0,_,k=>by
  show l[k]! = _
  ((repeat' split)<;>first | rfl | (exfalso;omega) | (congr 1<;>omega))
 | n+1,h,k=>by
  have ih:=TO l a n (by omega)
  rw [oD,xF (by rw [xG];omega) (by rw [xG];omega),ih k,ih (a+n),ih (a+n+1)]
  ((repeat' split)<;>first | rfl | (exfalso;omega) | (congr 1<;>omega))
theorem TP {l:List α} {a b:Nat}:∀n,a+n<b→b≤l.length→c1 l (oD l a n) a b
 | 0,_,_=>c1.refl _ _ _
 | n+1,h,aa=>(TP n (by omega) aa).trans (c1.iy (by omega) (by omega) (by omega) (by omega) (by rw [xG];exact aa))
def oE (l:List α) (m:Nat):Nat→List α
 | 0=>l
 | i+1=>iy (oE l m i) (m - i) (m - i - 1)
theorem xH (l:List α) (m:Nat):∀n,(oE l m n).length=l.length
 | 0=>rfl
 | n+1=>by rw [oE,xE,xH l m n]
theorem TQ (l:List α) (m:Nat):∀n,n≤m→m<l.length→∀k,(oE l m n)[k]! = if m - n<k∧k≤m then l[k - 1]! else if k=m - n then l[m]! else l[k]!
 | 0,_,_,k=>by
  show l[k]! = _
  ((repeat' split)<;>first | rfl | (exfalso;omega) | (congr 1<;>omega))
 | n+1,h,aa,k=>by
  have ih:=TQ l m n (by omega) aa
  rw [oE,xF (by rw [xH];omega) (by rw [xH];omega),ih k,ih (m - n),ih (m - n - 1)]
  ((repeat' split)<;>first | rfl | (exfalso;omega) | (congr 1<;>omega))
theorem TR {l:List α} {a b m:Nat}:∀n,a+n≤m→m<b→b≤l.length→c1 l (oE l m n) a b
 | 0,_,_,_=>c1.refl _ _ _
 | n+1,h,R,aa=>(TR n (by omega) R aa).trans (c1.iy (by omega) (by omega) (by omega) (by omega) (by rw [xH];exact aa))
theorem aob (T:nL c) {l:List α} {a b i:Nat} (R:a+1≤i) (aa:i≤b) (al:b≤l.length) (aS:di c l (a+1) b) (dk:i=a+1∨c l[i - 1]! l[a]! < 0) (fZ:i=b∨¬c l[i]! l[a]! < 0) (ps:a<b) :
  di c (oD l a (i - 1 - a)) a b:=fun p q cr cX eX=>by
 have aK:=TO l a (i - 1 - a) (by omega)
 have eD:∀{p q:Nat},a+1≤p→p≤q→q<b→c l[p]! l[q]!≤0:=fun {p q} x y z=>by
  by_cases e:p=q
  ·subst e;rw [T.refl];exact Int.le_refl 0
  ·exact aS p q x (by omega) z
 rw [aK p,aK q]
 by_cases aB:q<i - 1
 ·rw [if_pos (by omega),if_pos (by omega)];exact eD (by omega) (by omega) (by omega)
 ·by_cases aI:q=i - 1
  ·subst aI
   rw [if_pos (by omega),if_neg (by omega),if_pos (by omega)]
   rcases dk with h | h
   ·omega
   ·exact T.le (eD (by omega) (show p+1≤i - 1 by omega) (by omega)) (by omega)
  ·rw [if_neg (c:=a≤q∧q<a+(i - 1 - a)) (by omega),if_neg (c:=q=a+(i - 1 - a)) (by omega)]
   by_cases dS:p<i - 1
   ·rw [if_pos (by omega)];exact eD (by omega) (by omega) eX
   ·by_cases h1:p=i - 1
    ·rw [if_neg (by omega),if_pos (by omega)]
     rcases fZ with h | h
     ·omega
     ·exact T.le (by have:=T.neg l[i]! l[a]!;omega) (eD (by omega) (show i≤q by omega) eX)
    ·rw [if_neg (by omega),if_neg (by omega)];exact eD (by omega) (by omega) eX
theorem aoc (T:nL c) {l:List α} {a m i:Nat} (R:a≤i) (aa:i≤m) (al:m<l.length) (aS:di c l a m) (dk:i=a∨¬c l[m]! l[i - 1]! < 0) (fZ:i=m∨c l[m]! l[i]! < 0) :
  di c (oE l m (m - i)) a (m+1):=fun p q cr cX eX=>by
 have aK:=TQ l m (m - i) (by omega) al
 have eD:∀{p q:Nat},a≤p→p≤q→q<m→c l[p]! l[q]!≤0:=fun {p q} x y z=>by
  by_cases e:p=q
  ·subst e;rw [T.refl];exact Int.le_refl 0
  ·exact aS p q x (by omega) z
 rw [aK p,aK q]
 by_cases aB:q<i
 ·rw [if_neg (c:=m - (m - i)<p∧p≤m) (by omega),if_neg (c:=p=m - (m - i)) (by omega),if_neg (by omega),if_neg (by omega)];exact eD cr (by omega) (by omega)
 ·by_cases aI:q=i
  ·subst aI
   rw [if_neg (c:=m - (m - q)<p∧p≤m) (by omega),if_neg (c:=p=m - (m - q)) (by omega),if_neg (by omega),if_pos (by omega)]
   rcases dk with h | h
   ·omega
   ·exact T.le (eD cr (show p≤q - 1 by omega) (by omega)) (by have:=T.neg l[m]! l[q - 1]!;omega)
  ·rw [if_pos (c:=m - (m - i)<q∧q≤m) (by omega)]
   by_cases dS:p<i
   ·rw [if_neg (by omega),if_neg (by omega)];exact eD cr (by omega) (by omega)
   ·by_cases h1:p=i
    ·rw [if_neg (by omega),if_pos (by omega)]
     rcases fZ with h | h
     ·omega
     ·exact T.le (show c l[m]! l[i]!≤0 by omega) (eD (by omega) (by omega) (by omega))
    ·rw [if_pos (by omega)];exact eD (by omega) (by omega) (by omega)
def l5 (c:α→α→Int) (l:List α) (n s u:Nat):Prop:=∀w p q,u≤w→s*w≤p→p<q→q<s*(w+1)→q<n→c l[p]! l[q]!≤0
def sx (c:α→α→Int) (l:List α) (s u:Nat):Prop:=∀w p q,w<u→s*w≤p→p<q→q<s*(w+1)→c l[p]! l[q]!≤0
theorem sx.step {l cx:List α} {s u a b:Nat} (h:sx c l s u) (aZ:a=s*u) (ah:b=s*(u+1)) (aS:c1 l cx a b) (aA:di c cx a b):sx c cx s (u+1):=fun w p q an ar aO bD=>by
 by_cases e:w=u
 ·subst e;exact aA p q (by omega) aO (by omega)
 ·have:s*(w+1)≤s*u:=Nat.mul_le_mul_left _ (by omega)
  rw [aS.out p (by omega),aS.out q (by omega)]
  exact h w p q (by omega) ar aO bD
theorem sx.last {l cx:List α} {n s u a:Nat} (h:sx c l s u) (aZ:a=s*u) (a1:n≤a+s) (aS:c1 l cx a n) (aA:di c cx a n):l5 c cx n s 0:=fun w p q an ar aO bD ew=>by
 by_cases e:w=u
 ·subst e;exact aA p q (by omega) aO (by omega)
 ·by_cases aI:w<u
  ·have:s*(w+1)≤s*u:=Nat.mul_le_mul_left _ (by omega)
   rw [aS.out p (by omega),aS.out q (by omega)]
   exact h w p q (by omega) ar aO bD
  ·have:s*(u+1)≤s*w:=Nat.mul_le_mul_left _ (by omega)
   rw [Nat.mul_add] at this
   omega
theorem l5.TS {l:List α} {n s u a:Nat} (h:l5 c l n s (2*u)) (aZ:a=2*s*u) (a1:a+s≤n):di c l a (a+s):=fun p q an ar aO=>by
 have e:s*(2*u)=2*s*u:=by rw [←Nat.mul_assoc,Nat.mul_comm s 2]
 exact h (2*u) p q (Nat.le_refl _) (by omega) ar (by rw [Nat.mul_add];omega) (by omega)
theorem l5.TT {l:List α} {n s u a b:Nat} (h:l5 c l n s (2*u)) (aZ:a=2*s*u) (ah:b≤a+2*s) (a1:b≤n):di c l (a+s) b:=fun p q an ar aO=>by
 have e:s*(2*u)=2*s*u:=by rw [←Nat.mul_assoc,Nat.mul_comm s 2]
 exact h (2*u+1) p q (by omega) (by rw [Nat.mul_add];omega) ar (by rw [Nat.mul_add,Nat.mul_add];omega) (by omega)
theorem l5.step {l cx:List α} {n s u a b:Nat} (h:l5 c l n s (2*u)) (aZ:a=2*s*u) (ah:b=a+2*s) (aS:c1 l cx a b):l5 c cx n s (2*(u+1)):=fun w p q an ar aO bD ew=>by
 have R:s*(2*u+2)≤s*w:=Nat.mul_le_mul_left _ (by omega)
 have e:s*(2*u)=2*s*u:=by rw [←Nat.mul_assoc,Nat.mul_comm s 2]
 rw [Nat.mul_add] at R
 rw [aS.out p (by omega),aS.out q (by omega)]
 exact h w p q (by omega) ar aO bD ew
theorem l5.full {l:List α} {n s:Nat} (h:l5 c l n s 0) (a1:n≤s):di c l 0 n:=fun p q _ ar aO=>h 0 p q (by omega) (by omega) ar (by omega) aO
end
end AM
/-! Rows of terms on the heap. -/
namespace AM
open Go
open Enc (enc)
def e0:List aj→List AV
 | []=>[]
 | t::r=>.str t.name::.list none 2 (t.args.map aj.enc)::e0 r
theorem sy:∀l:List aj,(e0 l).length=l.length*2
 | []=>rfl
 | t::r=>by simp only [e0,List.length_cons,sy r];omega
theorem TU:∀{l:List aj} {i:Nat},i<l.length→((e0 l).drop (i*2)).take 2=[.str l[i]!.name,.list none 2 (l[i]!.args.map aj.enc)]
 | [],i,h=>by simp at h
 | t::r,0,_=>by simp [e0]
 | t::r,i+1,h=>by
  rw [show (i+1)*2=i*2+2 by omega]
  simp only [e0,List.drop_succ_cons]
  rw [TU (by simpa using h)]
  simp
theorem TV:∀{l:List aj} {i:Nat} {x:aj},i<l.length→eV (e0 l) (i*2) [.str x.name,.list none 2 (x.args.map aj.enc)]=e0 (l.set i x)
 | [],i,x,h=>by simp at h
 | t::r,0,x,_=>by simp [e0,eV]
 | t::r,i+1,x,h=>by
  have:=TV (l:=r) (i:=i) (x:=x) (by simpa using h)
  rw [show (i+1)*2=i*2+2 by omega]
  simp only [eV,e0,List.set_cons_succ] at this ⊢
  rw [this]
def eM (e:Nat) (H:List aM) (id:Nat) (l:List aj):List aM:=H.set id (.buf e (e0 l))
theorem TW {e:Nat} {H:List aM} {id:Nat} {l:List aj} (h:id<H.length):(eM e H id l)[id]?=some (.buf e (e0 l)):=by simp [eM,h]
theorem aod {e:Nat} {l:List aj} {i:Nat} (h:i<l.length):AG 2 (i*2) (some (.buf e (e0 l)))=some [.str l[i]!.name,.list none 2 (l[i]!.args.map aj.enc)]:=by
 rw [Te,TU h,sy,if_pos (by omega)]
theorem TX {E:Env} {e:Nat} {H:List aM} {id:Nat} {l:List aj} {i:Nat} {x:aj} (h:i<l.length) :
  uX E (eM e H id l) id (i*2) [.str x.name,.list none 2 (x.args.map aj.enc)] (some (.buf e (e0 l)))=some ⟨E,eM e H id (l.set i x)⟩:=by
 rw [J7,sy,if_pos (by simp only [List.length_cons,List.length_nil];omega),TV h]
 simp [eM]
theorem aoe {E:Env} {e:Nat} {H:List aM} {id:Nat} {l:List aj} {i j:Nat} {x y:aj} (h:i<l.length) :
  uX E (eM e H id (l.set j y)) id (i*2) [.str x.name,.list none 2 (x.args.map aj.enc)] (some (.buf e (e0 (l.set j y))))=some ⟨E,eM e H id ((l.set j y).set i x)⟩ :=
 TX (by rw [List.length_set];exact h)
theorem aof (i j:Nat):((i:Int)+(j:Int)) / 2=(((i+j) / 2:Nat):Int):=by omega
theorem aog {n:Int} (h:0≤n∧n<18446744073709551616):IntKind.u64.wrap n=n:=by
 simp only [IntKind.wrap,IntKind.signed,IntKind.bits]
 simp
 omega
theorem aoh (a b:Nat):((a:Int)+(b:Int)).toNat=a+b:=by omega
theorem aoi (a:Nat):((a:Int) - 1).toNat=a - 1:=by omega
attribute [go_sem] aoh aoi
attribute [go_sem 3000] aod TX
attribute [go_sem 3100] aoe
attribute [go_sem ↓ 4000] Tf Tg
attribute [go_sem] TW aog aof
end AM
/-! A sorted part exists; neighbouring parts exchanged, as a function. -/
namespace AM
open Go
section
set_option linter.unusedSectionVars false
variable {α:Type} [Inhabited α] {c:α→α→Int}
theorem TY (T:nL c) {a b i:Nat} (av:i<b):∀j (l:List α),a≤j→j≤i→b≤l.length→l3 c l a i j→∃cx,c1 l cx a b∧di c cx a (i+1)
 | j,l,R,aa,al,h=>by
  by_cases e:a<j
  ·by_cases aI:c l[j]! l[j - 1]! < 0
   ·obtain ⟨cx,an,ar⟩:=TY T av (j - 1) (iy l j (j - 1)) (by omega) (by omega) (by rw [xE];exact al) (h.step e aa (by omega) (by omega))
    exact ⟨cx,(c1.iy (by omega) (by omega) (by omega) (by omega) al).trans an,ar⟩
   ·exact ⟨l,c1.refl _ _ _,h.TM T e aI⟩
  ·obtain rfl:j=a:=by omega
   exact ⟨l,c1.refl _ _ _,h.TL⟩
 termination_by j=>j
theorem nM (T:nL c) (l:List α) {a b:Nat} (ah:b≤l.length):∃cx,c1 l cx a b∧di c cx a b:=by
 have key:∀i,i≤b→a≤i→∃cx,c1 l cx a b∧di c cx a i:=fun i=>by
  induction i with
  | zero=>exact fun _ h=>⟨l,c1.refl _ _ _,fun p q R aa al=>by omega⟩
  | succ i ih =>
   intro R aa
   by_cases e:a≤i
   ·obtain ⟨cT,an,ar⟩:=ih (by omega) e
    obtain ⟨cn,bf,bu⟩:=TY T (show i<b by omega) i cT e (Nat.le_refl _) (by rw [an.len];exact ah) (l3.start ar)
    exact ⟨cn,an.trans bf,bu⟩
   ·exact ⟨l,c1.refl _ _ _,fun p q R aa al=>by omega⟩
 by_cases h:a≤b
 ·exact key b (Nat.le_refl _) h
 ·exact ⟨l,c1.refl _ _ _,fun p q R aa al=>by omega⟩
def oF (l:List α) (a m b:Nat):List α:=(List.range l.length).map (jr l a m b)
theorem Kl (l:List α) (a m b:Nat):(oF l a m b).length=l.length:=by simp [oF]
theorem Km (l:List α) {a m b:Nat} (R:a≤m) (aa:m≤b) (ah:b≤l.length) (k:Nat):(oF l a m b)[k]! = jr l a m b k:=by
 by_cases h:k<l.length
 ·rw [u2];simp [oF,h]
 ·have aY:(oF l a m b)[k]?=none:=List.getElem?_eq_none (by rw [Kl];omega)
  have bn:l[k]?=none:=List.getElem?_eq_none (by omega)
  have cw:¬(a≤k∧k<a+(b - m)):=by omega
  have dr:¬(a+(b - m)≤k∧k<b):=by omega
  rw [jr,if_neg cw,if_neg dr,u2,u2,aY,bn]
theorem aoj {ix l:List α} {a m b i:Nat} (aA:l4 ix l a m b i i) (aa:i≤m) (al:m+i≤l.length) (aZ:a≤m) (hm:m≤b) (ah:b≤ix.length) (aN:l.length=ix.length):mP l (m - i) m i=oF ix a m b :=
 an5 (by rw [sw,Kl,aN]) fun k=>by rw [aA.stop aa al k,Km ix aZ hm ah]
end
theorem nN {P:Program} {gl:aR} {f e:Nat} {vs:List AV} {H j8:List aM} {id:Nat} {Q:List aj→Prop} {K:AV→List aM→Prop} {tg:bA K}
  (h:ec P gl f vs H fun r H'=>r=.bw []∧∃cx,H'=eM e j8 id cx∧Q cx) (hex:∃cx,Q cx) (ab:∀cx,Q cx→K (.bw []) (eM e j8 id cx)):qZ P gl f vs H K tg :=
 anM ⟨h,by obtain ⟨cx,aN⟩:=hex;exact ⟨_,_,rfl,cx,rfl,aN⟩⟩ fun r H' ⟨R,cx,aa,al⟩=>by rw [R,aa];exact ab cx al
theorem kR:nL bJ:=⟨xC,xD,q1⟩
end AM
/-! Lists of terms in strictly ascending order: one for each set. -/
namespace AM
open Go
def lx (l:List aj):Prop:=l.Pairwise fun x y=>bJ x y<0
theorem AU {l:List aj} (h:lx l) {i j:Nat} (R:i<j) (aa:j<l.length):bJ l[i]! l[j]! < 0:=by
 have:=List.pairwise_iff_getElem.1 h i j (by omega) aa R
 simpa [show i<l.length by omega,aa] using this
theorem Kp {l:List aj} {t:aj} (h:lx l):∀f aX av,av - aX≤f→aX≤av→av≤l.length→(∀k,k<aX→bJ l[k]! t<0)→(∀k,av≤k→k<l.length→¬bJ l[k]! t<0) →
  aX≤jn l t f aX av∧jn l t f aX av≤av∧(∀k,k<jn l t f aX av→bJ l[k]! t<0)∧(∀k,jn l t f aX av≤k→k<l.length→¬bJ l[k]! t<0)
 | 0,aX,av,R,aa,al,aY,bn=>by
  have:aX=av:=by omega
  subst this
  exact ⟨Nat.le_refl _,Nat.le_refl _,aY,bn⟩
 | f+1,aX,av,R,aa,al,aY,bn=>by
  by_cases aN:aX<av
  ·have ai:l[(aX+av) / 2]?=some l[(aX+av) / 2]!:=Kb (by omega)
   rw [S0 l t R aN ai]
   split
   ·rename_i af
    rw [←qV l t (f:=f+1) _ _ (by omega),qV l t (f+1) _ _ (by omega),qV l t f _ _ (by omega)]
    have:=Kp h f ((aX+av) / 2+1) av (by omega) (by omega) al (fun k ab=>by
     by_cases e:k=(aX+av) / 2
     ·rw [e];exact af
     ·have:=AU h (show k<(aX+av) / 2 by omega) (by omega)
      exact xD _ _ _ this af) bn
    exact ⟨by omega,this.2.1,this.2.2⟩
   ·rename_i af
    rw [qV l t f _ _ (by omega)]
    have:=Kp h f aX ((aX+av) / 2) (by omega) (by omega) (by omega) aY (fun k ab ga=>by
     by_cases e:k=(aX+av) / 2
     ·rw [e];exact af
     ·have:=AU h (show (aX+av) / 2<k by omega) ga
      intro aor
      exact af (xD _ _ _ this aor))
    exact ⟨this.1,by omega,this.2.2⟩
  ·rw [uT l t (by omega)]
   have:aX=av:=by omega
   subst this
   exact ⟨Nat.le_refl _,Nat.le_refl _,aY,bn⟩
theorem aos {l:List aj} (h:lx l) (t:aj):ic l t≤l.length∧(∀k,k<ic l t→bJ l[k]! t<0)∧(∀k,ic l t≤k→k<l.length→¬bJ l[k]! t<0) :=
 (Kp (t:=t) h l.length 0 l.length (by omega) (by omega) (Nat.le_refl _) (fun k ab=>by omega) (fun k R aa=>by omega)).2
theorem aot {l:List aj} {n:Nat} {x:aj} (h:x∈l.take n):∃k,k<n∧k<l.length∧l[k]! = x:=by
 obtain ⟨k,ab,rfl⟩:=List.getElem_of_mem h
 simp only [List.length_take] at ab
 exact ⟨k,by omega,by omega,by simp [show k<l.length by omega]⟩
theorem T6 {l:List aj} {n:Nat} {x:aj} (h:x∈l.drop n):∃k,n≤k∧k<l.length∧l[k]! = x:=by
 obtain ⟨k,ab,rfl⟩:=List.getElem_of_mem h
 simp only [List.length_drop] at ab
 exact ⟨n+k,by omega,by omega,by simp [show n+k<l.length by omega]⟩
theorem aou {l:List aj} (h:lx l) (t:aj):lx (ie l t)∧∀x,x∈ie l t↔x=t∨x∈l:=by
 obtain ⟨R,aa,al⟩:=aos h t
 have put:(∀k,ic l t≤k→k<l.length→0<bJ l[k]! t)→lx (l.take (ic l t)++t::l.drop (ic l t))∧∀x,x∈l.take (ic l t)++t::l.drop (ic l t)↔x=t∨x∈l:=fun aY=>by
  refine ⟨?_,fun x=>?_⟩
  ·refine List.pairwise_append.2 ⟨h.sublist (List.take_sublist _ _),List.pairwise_cons.2 ⟨fun y aT=>?_,h.sublist (List.drop_sublist _ _)⟩,fun y aT z bx=>?_⟩
   ·obtain ⟨k,an,ar,rfl⟩:=T6 aT
    have:=aY k an ar
    rw [xC];omega
   ·obtain ⟨k,an,ar,rfl⟩:=aot aT
    rcases List.mem_cons.1 bx with rfl | bx
    ·exact aa k an
    ·obtain ⟨j,bf,bu,rfl⟩:=T6 bx
     exact AU h (by omega) bu
  ·rw [List.mem_append,List.mem_cons]
   have:x∈l↔x∈l.take (ic l t)∨x∈l.drop (ic l t):=by rw [←List.mem_append,List.take_append_drop]
   rw [this]
   exact ⟨fun h=>by rcases h with h | h | h<;>simp [h],fun h=>by rcases h with h | h | h<;>simp [h]⟩
 unfold ie
 split
 ·rename_i x ai
  obtain ⟨bz,aov⟩:=List.getElem?_eq_some_iff.1 ai
  have ah:l[ic l t]! = x:=by simp [bz,aov]
  split
  ·rename_i af
   have:=q1 _ _ af
   subst this
   exact ⟨h,fun y=>⟨fun aT=>.inr aT,fun aT=>by
    rcases aT with rfl | aT
    ·exact List.mem_of_getElem? ai
    ·exact aT⟩⟩
  ·rename_i af
   refine put fun k an ar=>?_
   have bn:=al _ (Nat.le_refl _) bz
   rw [ah] at bn
   by_cases e:k=ic l t
   ·rw [e,ah];omega
   ·have cw:=AU h (show ic l t<k by omega) ar
    rw [ah] at cw
    have dr:=xC t x
    have hL:=xD t x l[k]! (by omega) cw
    have hM:=xC t l[k]!
    omega
 ·rename_i ai
  have:l.length≤ic l t:=by simpa using ai
  exact put fun k an ar=>by omega
theorem Kq:∀(r l:List aj),lx l→lx (dW l r)∧∀x,x∈dW l r↔x∈r∨x∈l
 | [],l,h=>⟨h,fun x=>by simp [dW]⟩
 | t::r,l,h=>by
  obtain ⟨R,aa⟩:=aou h t
  obtain ⟨al,aY⟩:=Kq r (ie l t) R
  refine ⟨al,fun x=>?_⟩
  show x∈dW (ie l t) r↔_
  rw [aY,aa,List.mem_cons]
  exact ⟨fun h=>by rcases h with h | h | h<;>simp [h],fun h=>by rcases h with (h | h) | h<;>simp [h]⟩
theorem Kr:lx []:=List.Pairwise.nil
theorem T7:∀{l m:List aj},lx l→lx m→(∀x,x∈l↔x∈m)→l=m
 | [],[],_,_,_=>rfl
 | [],y::s,_,_,h=>by have:=(h y).2 (by simp);simp at this
 | x::r,[],_,_,h=>by have:=(h x).1 (by simp);simp at this
 | x::r,y::s,R,aa,h=>by
  obtain ⟨de,dR⟩:=List.pairwise_cons.1 R
  obtain ⟨e5,eQ⟩:=List.pairwise_cons.1 aa
  have e:x=y:=by
   rcases List.mem_cons.1 ((h x).1 (by simp)) with e | e
   ·exact e
   ·rcases List.mem_cons.1 ((h y).2 (by simp)) with aI | aI
    ·exact aI.symm
    ·have an:=e5 x e
     have ar:=de y aI
     have:=xC x y
     omega
  subst e
  rw [T7 dR eQ fun z=>⟨fun bx=>by
   rcases List.mem_cons.1 ((h z).1 (by simp [bx])) with e | e
   ·subst e;have:=de z bx;rw [TJ] at this;omega
   ·exact e,fun bx=>by
   rcases List.mem_cons.1 ((h z).2 (by simp [bx])) with e | e
   ·subst e;have:=e5 z bx;rw [TJ] at this;omega
   ·exact e⟩]
def kS (l:List aj):List aj:=dW [] l
theorem aow (l:List aj):lx (kS l):=(Kq l [] Kr).1
theorem T8 (l:List aj) (x:aj):x∈kS l↔x∈l:=by
 have:=(Kq l [] Kr).2 x
 simpa [kS] using this
theorem aox (l:List aj):(kS l).length≤l.length:=by have:=xn l [];simpa [kS] using this
theorem aoy {l m:List aj} (R:lx m) (aa:∀x,x∈m↔x∈l):m=kS l:=T7 R (aow l) fun x=>(aa x).trans (T8 l x).symm
def ig (l:List aj):Nat→List aj
 | 0=>[]
 | i+1=>if i=0∨bJ l[i - 1]! l[i]!≠0 then ig l i++[l[i]!] else ig l i
theorem T9 (l:List aj):∀i,(ig l i).length≤i
 | 0=>by simp [ig]
 | i+1=>by
  have:=T9 l i
  rw [ig];split
  ·simp;omega
  ·omega
theorem Ua {l:List aj} {n:Nat} (h:di bJ l 0 n):∀i,i≤n→lx (ig l i)∧∀x,x∈ig l i↔∃k,k<i∧l[k]! = x
 | 0,_=>⟨Kr,fun x=>by simp [ig]⟩
 | i+1,av=>by
  obtain ⟨R,aa⟩:=Ua h i (by omega)
  rw [ig]
  split
  ·rename_i af
   refine ⟨List.pairwise_append.2 ⟨R,List.pairwise_singleton _ _,fun y aT z bx=>?_⟩,fun x=>?_⟩
   ·simp only [List.mem_singleton] at bx;subst bx
    obtain ⟨k,an,rfl⟩:=(aa y).1 aT
    rcases af with af | af
    ·omega
    ·have ar:bJ l[i - 1]! l[i]! < 0:=by
      have:=h (i - 1) i (by omega) (by omega) (by omega)
      omega
     by_cases e:k=i - 1
     ·rw [e];exact ar
     ·have aO:=h k (i - 1) (by omega) (by omega) (by omega)
      by_cases aI:bJ l[k]! l[i - 1]! = 0
      ·rw [q1 _ _ aI];exact ar
      ·exact xD _ _ _ (by omega) ar
   ·rw [List.mem_append,aa,List.mem_singleton]
    constructor
    ·rintro (⟨k,an,rfl⟩ | rfl)
     ·exact ⟨k,by omega,rfl⟩
     ·exact ⟨i,by omega,rfl⟩
    ·rintro ⟨k,an,rfl⟩
     by_cases e:k=i
     ·subst e;exact .inr rfl
     ·exact .inl ⟨k,by omega,rfl⟩
  ·rename_i af
   refine ⟨R,fun x=>(aa x).trans ⟨fun ⟨k,an,ar⟩=>⟨k,by omega,ar⟩,fun ⟨k,an,ar⟩=>?_⟩⟩
   by_cases e:k=i
   ·subst e
    have aO:k≠0:=fun e=>af (.inl e)
    have bD:bJ l[k - 1]! l[k]! = 0:=by
     by_cases aI:bJ l[k - 1]! l[k]! = 0
     ·exact aI
     ·exact absurd (.inr aI) af
    exact ⟨k - 1,by omega,by rw [q1 _ _ bD];exact ar⟩
   ·exact ⟨k,by omega,ar⟩
theorem aoz {l cx:List aj} {n:Nat} (a1:n=l.length) (aS:c1 l cx 0 n) (h:di bJ cx 0 n):ig cx n=kS l:=by
 obtain ⟨R,aa⟩:=Ua h n (Nat.le_refl _)
 refine aoy R fun x=>(aa x).trans ⟨fun ⟨k,an,ar⟩=>?_,fun ai=>?_⟩
 ·obtain ⟨k',bf,bu,b5⟩:=aS.u3 k (by omega) an
  rw [←ar,b5];exact To (by omega)
 ·obtain ⟨k,ab,rfl⟩:=List.getElem_of_mem ai
  obtain ⟨k',bf,bu,b5⟩:=aS.AR k (by omega) (by omega)
  exact ⟨k',bu,by rw [←b5];simp [ab]⟩
end AM
/-! Steps of slices.Clone and of the freezing of a row. -/
namespace AM
open Go
open Enc (enc)
theorem Ub:∀l:List aj,((l.map aj.enc).map fun v:AV=>v.cells.map AV.aL).flatten=e0 l
 | []=>rfl
 | t::r=>by
  simp only [List.map_cons,List.flatten_cons,Ub r,aj.cP,e0,AV.aL,List.map_nil,List.cons_append,List.nil_append]
theorem Uc:∀l:List aj,(e0 l).map AV.aL=e0 l
 | []=>rfl
 | t::r=>by simp only [e0,List.map_cons,AV.aL,Uc r]
theorem Ud:∀l:List aj,(e0 l).all AV.dw=true
 | []=>rfl
 | t::r=>by simp only [e0,List.all_cons,AV.dw,Ud r,Bool.and_self]
theorem Ue:∀l:List aj,chunk 2 l.length (e0 l)=l.map aj.enc
 | []=>rfl
 | t::r=>by
  simp only [List.length_cons,chunk,e0,List.map_cons,aj.uV t]
  simp only [show ¬(2=1) by decide,if_false,List.take_succ_cons,List.take_zero,List.drop_succ_cons,List.drop_zero,Ue r]
def xK (ne:Bool):AV→Option AV
 | .aH _=>some (.bool (!ne))
 | .eE _=>some (.bool ne)
 | .list _ _ xs=>if xs=[] then none else some (.bool ne)
 | _=>none
theorem aoA (ne:Bool) (z:Nat):xK ne (.aH z)=some (.bool (!ne)):=_root_.id rfl
theorem aoB (ne:Bool) (z:Nat):xK ne (.eE z)=some (.bool ne):=_root_.id rfl
theorem aoC (ne:Bool) (o:Option Nat) (z:Nat) {l:List aj} (h:l≠[]):xK ne (.list o z (l.map aj.enc))=some (.bool ne):=by
 simp only [xK,List.map_eq_nil_iff,if_neg h]
section
variable {P:Program} {gl:aR} {D:cv}
theorem aoD {d:Nat} {ne:Bool} {x:aq} {s:ae} {K:ae→Prop} {t:bA K}:cO P gl D s K t (.jU d ne x)=c6 (bl gl s.env x) (fun v=>c6 (xK ne v) (fun b=>fF s d b K ⟨⟩) ⟨⟩) ⟨⟩:=by
 rw [PM]
 simp only [au]
 cases bl gl s.env x with
 | none=>rfl
 | some v=>cases v with
  | list o z xs=>cases xs<;>rfl
  | _=>rfl
def aoE (s:ae) (d e sz n id:Nat) (ys:List AV):Option aM→Option ae
 | some (.buf bH cs)=>if bH=e∧n*sz≤cs.length∧n+ys.length≤M then
     ({ s with heap:=s.heap.set id .dead++[aM.buf e ((cs.take (n*sz)).map AV.aL++(ys.map fun v:AV=>v.cells.map AV.aL).flatten),.dead] }).put d (.bI s.heap.length 0 (n+ys.length) sz) else none
 | _=>none
def ard (s:ae) (d e sz:Nat) (y:Option (Nat×List AV)) (K:ae→Prop) (_:bA K):AV→Prop
 | .bI id 0 n jW=>match y with
  | some (b8,ys)=>if jW=sz∧b8=sz then c5 (aoE s d e sz n id ys s.heap[id]?) K ⟨⟩ else False
  | none=>False
 | _=>False
end
def u5 (l:Env) (H:List aM) (t e sz id n b8:Nat):Option aM→Option ae
 | some (.buf bH cs)=>if bH=e∧b8=sz∧n*sz≤cs.length∧((cs.take (n*sz)).map AV.aL).all AV.dw=true∧n≤M then
    some { env:=(N l).ins t (.v (.list (some e) sz (chunk sz n ((cs.take (n*sz)).map AV.aL)))),heap:=H.set id .dead } else none
 | _=>none
def AW (l:Env) (H:List aM) (t e sz:Nat):Option bU→Option ae
 | some (.v (.bI id 0 n b8))=>u5 l H t e sz id n b8 H[id]?
 | some (.v _)=>some ⟨N l,H⟩
 | _=>none
theorem aoF {l:Env} {H:List aM} {t e sz:Nat}:rH ⟨N l,H⟩ t e sz=AW l H t e sz (Env.get l t):=by
 unfold rH AW
 simp only [mE]
 cases Env.get l t with
 | none=>rfl
 | some mJ=>cases mJ with
  | v x=>cases x with
   | bI id o n z=>cases o with
    | zero =>
     simp only [u5]
     cases H[id]? with
     | none=>rfl
     | some bt=>cases bt<;>rfl
    | succ o=>rfl
   | _=>rfl
  | _=>rfl
theorem aoG (l:Env) (H:List aM) (t e sz id n b8:Nat):AW l H t e sz (some (.v (.bI id 0 n b8)))=u5 l H t e sz id n b8 H[id]?:=_root_.id rfl
theorem aoH (l:Env) (H:List aM) (t e sz z:Nat):AW l H t e sz (some (.v (.aH z)))=some ⟨N l,H⟩:=_root_.id rfl
theorem Uf {l:Env} {H:List aM} {t e id n:Nat} {m:List aj} (h:m.length=n∧n≤M):u5 l H t e 2 id n 2 (some (.buf e (e0 m)))=some ⟨N ((t,.v (.list (some e) 2 (m.map aj.enc)))::l),H.set id .dead⟩:=by
 obtain ⟨h,c7⟩:=h
 have aa:(e0 m).take (n*2)=e0 m:=List.take_of_length_le (by rw [sy,h];exact Nat.le_refl _)
 simp only [u5,aa,Uc,Ud,sy,h,true_and,Nat.le_refl,c7,if_true]
 rw [←h,Ue]
 simp only [b7,List.foldr_cons]
theorem aj.aoI (t:aj):t.enc.pure=true:=by rw [t.uV];rfl
attribute [go_sem] aj.aoI
attribute [go_sem 3000] Uf
attribute [go_sem ↓ 4000] aoD aoF
attribute [go_sem] aoA aoB aoC aoG aoH
theorem aU.split {g:a5} {sz:Nat} {v:Value} (h:aU g (.list none sz []) v):aU g (.aH sz) v∨aU g (.eE sz) v:=by
 generalize ai:([]:List AV)=xs at h
 cases h with
 | pure _ _ h=>cases h with
  | fP _ base cap ah =>
   cases base with
   | none=>rw [ah rfl];exact .inl (.pure _ _ (.aH _))
   | some b=>exact .inr (.pure _ _ (.eE _ _ _))
  | list b off cap _ _ R aa al=>subst ai;exact .inr (.pure _ _ (.eE _ _ _))
theorem a4.split {P:Program} {gl:aR} {f sz:Nat} {xs:List AV} {r:AV} (R:a4 P gl f (.aH sz::xs) r) (aa:a4 P gl f (.eE sz::xs) r):a4 P gl f (.list none sz []::xs) r:=fun γ w vs an ar aO=>by
 cases aO with
 | cons _ _ _ _ a b =>
  rcases a.split with a | a
  ·exact R γ w _ an ar (.cons _ _ _ _ a b)
  ·exact aa γ w _ an ar (.cons _ _ _ _ a b)
end AM
/-! Rows that are made first and filled then; the longest list within terms. -/
namespace AM
open Go
open Enc (enc)
mutual
def pT:aj→Nat | .mk _ l=>max l.length (hq l)
def hq:List aj→Nat | []=>0 | t::r=>max (pT t) (hq r)
end
theorem u6:∀{l:List aj} {t:aj},t∈l→pT t≤hq l
 | u::l,t,h=>by
  simp only [hq]
  rcases List.mem_cons.1 h with rfl | h
  ·omega
  ·have:=u6 h;omega
theorem AX:∀{l:List aj} {n:Nat},(∀t∈l,pT t≤n)→hq l≤n
 | [],n,_=>by simp [hq]
 | t::r,n,h=>by
  simp only [hq]
  have:=h t (by simp)
  have:=AX (l:=r) (n:=n) fun u hu=>h u (by simp [hu])
  omega
theorem Ui (t:aj):pT t=max t.args.length (hq t.args):=by cases t;simp only [pT,aj.args]
def l6 (l:List aj) (i:Nat):List AV:=e0 (l.take i)++(List.replicate (l.length - i) [AV.str [],AV.aH 2]).flatten
theorem aoT (l:List aj):l6 l 0=(List.replicate l.length [AV.str [],AV.aH 2]).flatten:=by simp [l6,e0]
theorem aoU (l:List aj):l6 l l.length=e0 l:=by simp [l6]
theorem aoV (n:Nat):(List.replicate n [AV.str [],AV.aH 2]).flatten.length=n*2:=by
 induction n with
 | zero=>rfl
 | succ n ih=>simp only [List.replicate_succ,List.flatten_cons,List.length_append,ih,List.length_cons,List.length_nil];omega
theorem aoW (l:List aj) {i:Nat} (h:i≤l.length):(l6 l i).length=l.length*2:=by
 rw [l6,List.length_append,sy,aoV,List.length_take];omega
theorem Uj:∀l m:List aj,e0 (l++m)=e0 l++e0 m
 | [],m=>rfl
 | t::r,m=>by simp only [List.cons_append,e0,Uj r m]
theorem aoX {α:Type} (l:List α) (a b x y:α) (r:List α) {n:Nat} (h:n=l.length):(((l++a::b::r).set n x).set (n+1) y)=l++x::y::r:=by
 subst h
 induction l with
 | nil=>rfl
 | cons c l ih=>simp only [List.cons_append,List.length_cons,List.set_cons_succ,ih]
theorem aoY {l:List aj} {i:Nat} (h:i<l.length):eV (l6 l i) (i*2) [.str l[i]!.name,.list none 2 (l[i]!.args.map aj.enc)]=l6 l (i+1):=by
 simp only [l6,eV]
 rw [show l.length - i=(l.length - (i+1))+1 by omega,List.replicate_succ,List.flatten_cons]
 simp only [List.cons_append,List.nil_append]
 rw [aoX (e0 (l.take i)) _ _ _ _ _ (by rw [sy,List.length_take];omega),dJ h,Uj]
 simp [e0]
theorem aoZ {E:Env} {e:Nat} {H:List aM} {id:Nat} {l:List aj} {i:Nat} (h:i<l.length) :
  uX E H id (i*2) [.str l[i]!.name,.list none 2 (l[i]!.args.map aj.enc)] (some (.buf e (l6 l i)))=some ⟨E,H.set id (.buf e (l6 l (i+1)))⟩:=by
 rw [J7,aoW l (by omega),if_pos (by simp only [List.length_cons,List.length_nil];omega),aoY h]
theorem ao0 {l:Env} {H:List aM} {t e id n:Nat} {m:List aj} (h:n=m.length∧n≤M):u5 l H t e 2 id n 2 (some (.buf e (l6 m n)))=some ⟨N ((t,.v (.list (some e) 2 (m.map aj.enc)))::l),H.set id .dead⟩:=by
 obtain ⟨rfl,c7⟩:=h
 rw [aoU,Uf ⟨rfl,c7⟩]
attribute [go_sem 3000] aoZ ao0
theorem ao1 (f:aj):(gx f).enc=.agg [.str [116,114,117,101],.list none 2 [f.enc]]:=by rw [gx,aj.uV];rfl
theorem ao2 (r j:aj):(fs r j).enc=.agg [.str [100,111,101,115],.list none 2 [r.enc,j.enc]]:=by rw [fs,aj.uV];rfl
theorem Uk (s j r:List aj):g9 s j r=kS (s.map gx++List.zipWith fs r j):=rfl
theorem ao3 {r j:List aj} {i:Nat} (R:i<r.length) (aa:i<j.length):(List.zipWith fs r j)[i]! = fs r[i]! j[i]!:=by
 rw [u2,List.getElem?_eq_getElem (by simp;omega)];simp [R,aa]
end AM
/-! The parts of a term, counted up to a bound. -/
namespace AM
open Go
def ki (f:aj→Int) (m:Int):List aj→Int→Int
 | [],n=>n
 | t::r,n=>if n>m then n else ki f m r (n+f t)
def kT (m:Int):Nat→aj→Int
 | 0,_=>m+1
 | d+1,t=>ki (kT m d) m t.args 1
def q3 (m:Int):Nat→Int
 | 0=>m+1
 | d+1=>q3 m d+m
theorem AZ {m:Int} (h:0≤m∧m≤1000):∀d:Nat,m+1≤q3 m d∧q3 m d≤((d:Int)+1)*1000+1
 | 0=>by simp only [q3];omega
 | d+1=>by have:=AZ h d;simp only [q3];omega
theorem Up {f:aj→Int} {m k:Int} (ab:m+1≤k):∀(l:List aj) (n:Int),(∀t∈l,1≤f t∧f t≤k)→1≤n→n≤k+m→1≤ki f m l n∧ki f m l n≤k+m
 | [],n,_,R,aa=>⟨R,aa⟩
 | t::r,n,aP,R,aa=>by
  have:=aP t (by simp)
  rw [ki]
  split
  ·exact ⟨R,aa⟩
  ·exact Up ab r _ (fun u hu=>aP u (by simp [hu])) (by omega) (by omega)
theorem Kv {m:Int} (h:0≤m∧m≤1000):∀(d:Nat) (t:aj),1≤kT m d t∧kT m d t≤q3 m d
 | 0,t=>by simp only [kT,q3];omega
 | d+1,t=>by
  have ab:=(AZ h d).1
  exact Up ab t.args 1 (fun u _=>Kv h d u) (Int.le_refl _) (by omega)
theorem Uq {f:aj→Int} {m:Int}:∀(l:List aj) (n:Int),(∀t∈l,1≤f t)→0≤n→ki f m l n≤m→n+l.length≤m∧∀t∈l,f t≤m
 | [],n,_,_,h=>by simpa [ki] using h
 | t::r,n,aP,a0,h=>by
  have R:=aP t (by simp)
  rw [ki] at h
  split at h
  ·omega
  ·have:=Uq r (n+f t) (fun u hu=>aP u (by simp [hu])) (by omega) h
   simp only [List.length_cons,List.mem_cons,forall_eq_or_imp]
   exact ⟨by omega,by omega,this.2⟩
theorem Ur {m:Int} (hm:0≤m∧m≤1000):∀(d:Nat) (t:aj),kT m d t≤m→(pT t:Int)≤m
 | 0,t,h=>by simp only [kT] at h;omega
 | d+1,t,h=>by
  obtain ⟨R,aa⟩:=Uq t.args 1 (fun u _=>(Kv hm d u).1) (by omega) h
  rw [Ui]
  have al:hq t.args≤m.toNat:=AX fun u hu=>by
   have:=Ur hm d u (aa u hu);omega
  omega
def nP (m:Int) (t:aj):Bool:=decide (kT m m.toNat t≤m)
def kU (m:Int) (l:List aj):Bool:=decide ((l.length:Int)≤m)&&l.all (nP m)
theorem Kw {m:Int} (hm:0≤m∧m≤1000) {l:List aj} (h:kU m l=true):l.length≤1000∧hq l≤1000:=by
 simp only [kU,Bool.and_eq_true,decide_eq_true_eq,List.all_eq_true] at h
 refine ⟨by omega,AX fun t aF=>?_⟩
 have:=Ur hm _ t (by simpa [nP] using h.2 t aF)
 omega
theorem ape {f:aj→Int} {m:Int} {l:List aj} {i:Nat} {n:Int} (h:i<l.length) (a1:¬n>m):ki f m (l.drop i) n=ki f m (l.drop (i+1)) (n+f l[i]!):=by
 rw [Kc h,ki,if_neg a1]
theorem apf {f:aj→Int} {m:Int} {l:List aj} {i:Nat} {n:Int} (h:i<l.length) (a1:n>m):ki f m (l.drop i) n=n:=by
 rw [Kc h,ki,if_pos a1]
theorem apg {f:aj→Int} {m:Int} {l:List aj} {i:Nat} {n:Int} (h:l.length≤i):ki f m (l.drop i) n=n:=by rw [List.drop_eq_nil_of_le h,ki]
end AM
