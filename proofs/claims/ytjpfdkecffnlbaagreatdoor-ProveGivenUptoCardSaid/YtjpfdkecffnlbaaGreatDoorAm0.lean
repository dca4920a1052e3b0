/- An abstract machine for the program of the seat, and what of the given program it does, part 1 of 17. Conditions: none. -/
import Derived.Orders
import Derived.Laws.AppendOwn
set_option linter.unusedVariables false
set_option linter.unusedSimpArgs false
/-! The abstract machine: values as data, local boxes, growable lists with one owner; its operations and its code. Conditions: none; definitions alone. -/
namespace AM
open Go
def M:Nat:=1099511627776
inductive AV where
 | bool (b:Bool)
 | int (k:IntKind) (n:Int)
 | str (s:List UInt8)
 | dP
 | ptr (id off:Nat)
 | cU (cs:List AV)
 | list (own:Option Nat) (sz:Nat) (xs:List AV)
 | map (id:Nat)
 | eN
 | fn (f:Nat) (eu:List AV)
 | gz
 | gm
 | aH (sz:Nat)
 | fb (sz:Nat)
 | eE (sz:Nat)
 | bI (id off n sz:Nat)
 | agg (cs:List AV)
 | bw (vs:List AV)
 deriving Inhabited
namespace AV
def cells:AV→List AV
 | .agg cs=>cs
 | v=>[v]
def aL:AV→AV
 | .list _ sz xs=>.list none sz xs
 | v=>v
def fy:AV→Option (Nat×List AV)
 | .list _ sz xs=>some (sz,xs)
 | .aH sz=>some (sz,[])
 | .eE sz=>some (sz,[])
 | _=>none
def sP:Bool→AV→Option (Nat×List AV)
 | true,.str b=>some (1,b.map fun c=>.int .u8 c.toNat)
 | true,_=>none
 | false,v=>v.fy
def dw:AV→Bool
 | .bool _ | .int _ _ | .str _ | .dP | .eN | .gz | .gm | .aH _ | .eE _ | .cU _=>true
 | .list none _ _=>true
 | _=>false
def pure:AV→Bool
 | .agg cs=>cs.all dw
 | v=>v.dw
def one:AV→Bool
 | .agg _ | .bw _=>false
 | _=>true
end AV
inductive bU where
 | v (x:AV)
 | b (cs:List AV)
 | a (t off:Nat)
 deriving Inhabited
inductive aM where
 | cells (cs:List AV)
 | buf (e:Nat) (cs:List AV)
 | map (n:Nat) (es:List (AV×AV))
 | iter (m:Option Nat) (since:Nat) (seen:List AV)
 | dead
 deriving Inhabited
abbrev Env:=List (Nat×bU)
structure ae where
 env:Env
 heap:List aM
namespace Env
def get:Env→Nat→Option bU
 | [],_=>none
 | (k,e)::r,t=>if t=k then some e else get r t
def ins:Env→Nat→bU→Env
 | [],t,e=>[(t,e)]
 | (k,bH)::r,t,e=>if t<k then (t,e)::(k,bH)::r else if t=k then (t,e)::r else (k,bH)::ins r t e
def del:Env→Nat→Env
 | [],_=>[]
 | (k,e)::r,t=>if t=k then del r t else (k,e)::del r t
def Bu:Env→Nat→Env
 | [],_=>[]
 | (k,.a u off)::r,t=>if u=t then Bu r t else (k,.a u off)::Bu r t
 | (k,e)::r,t=>(k,e)::Bu r t
def close:Env→List Nat→Env
 | [],_=>[]
 | (_,.a _ _)::r,bk=>close r bk
 | (k,e)::r,bk=>if bk.contains k then close r bk else (k,e)::close r bk
end Env
inductive aq where
 | t (n:Nat)
 | c (x:AV)
 | f (n:Nat)
 | g (n:Nat)
 deriving Inhabited
inductive bR where
 | I (d:Nat) (x:aq)
 | bg (d x:Nat)
 | hr (d e sz:Nat)
 | pick (d:Nat) (c a b:aq)
 | bin (d m:Nat) (op:BinOp) (x y:aq)
 | kV (d:Nat) (ne:Bool) (az:List Nat) (x y:aq)
 | cB (d:Nat) (x:aq)
 | neg (d:Nat) (x:aq)
 | conv (d:Nat) (k:IntKind) (x:aq)
 | ext (d x i:Nat)
 | len (d m:Nat) (x:aq)
 | alloc (d:Nat) (z:List AV)
 | box (d:Nat) (x:aq)
 | g0 (d:Nat) (z:List AV)
 | iR (d:Nat) (x:aq)
 | cz (d:Nat) (x:aq)
 | build (d:Nat) (z:List AV) (parts:List (Nat×Nat×aq))
 | lit (d sz:Nat) (xs:List aq)
 | aC (d:Nat) (x:aq) (off:Nat)
 | bm (d sz:Nat) (x i:aq)
 | jR (d:Nat) (x:aq) (n sz:Nat) (i:aq)
 | ak (d:Nat) (x:aq) (n:Nat) (ag:Bool)
 | gO (d:Nat) (x:aq) (e sz:Nat)
 | st (n:Nat) (x v:aq)
 | fW (x:aq) (v:Nat)
 | idx (d:Nat) (x i:aq)
 | hU (d sz:Nat) (x:aq) (aX av:Option aq)
 | jw (d:Nat) (x:aq) (n sz:Nat) (aX av:Option aq)
 | app (d s:Nat) (x:aq) (e sz:Nat)
 | bV (d:Nat) (x:aq)
 | iS (d f:Nat) (eu:List aq)
 | lz (d:Nat) (c:aq) (e sz:Nat)
 | mR (d e:Nat) (z:List AV)
 | mh (d:Nat) (x:aq) (e sz:Nat)
 | jS (d:Nat) (fz:Bool) (x y:aq)
 | jx (d:Nat)
 | look (az:List Nat) (d:Nat) (m k:aq) (zero:AV) (ok:Bool)
 | fX (az:List Nat) (d:Nat) (m k:aq) (zero:AV)
 | iT (az:List Nat) (m k v:aq)
 | lA (az:List Nat) (m k:aq) (v:Nat)
 | kW (az:List Nat) (d:Option Nat) (m k:aq)
 | kX (d:Nat) (m:aq)
 | hs (d:Nat) (it:aq)
 | iU (d:Nat) (it:aq)
 | kr (d e sz:Nat) (xs:List aq)
 | mi (d e sz:Nat) (xs:List aq)
 | jT (d e:Nat) (z:List AV) (x:aq)
 | jy (d e sz:Nat) (sb:Bool) (u x:aq)
 | mj (d u:Nat) (x:aq) (e sz:Nat)
 | mS (d u:Nat) (x:aq) (e sz:Nat)
 | jU (d:Nat) (ne:Bool) (x:aq)
 | nT (d:Nat) (x:aq) (sz:Nat)
 | mT (d:Nat) (x:aq)
 | mU (d e:Nat) (x n:aq)
 | mV (d f:Nat) (x:aq)
 | lB (d f:Nat) (x y:aq)
 | mW (e:Nat) (z:List AV) (x:aq)
 | iC (b:Bool) (n:Nat) (x v:aq)
 | on (m:Nat) (o:bR)
 | bad (d:Option Nat)
 | g1 (d:Option Nat) (f:Nat) (xs:List aq)
 | hK (d:Option Nat) (f u:Nat) (xs:List aq)
 | aQ (d:Option Nat) (f:Nat) (xs:List aq)
 | bF (d:Option Nat) (f:Nat) (xs:List aq)
 | eU (d:Option Nat) (x:aq) (xs:List aq)
 deriving Inhabited
structure ev where
 g:Option (Nat×Bool)
 o:bR
inductive ay where
 | skip
 | U (b6:List ev) (aqI:List Nat)
 | seq (a b:ay)
 | cond (c:aq) (a b:ay)
 | block (id:Nat) (c:ay)
 | loop (c:ay)
 | exit (id:Nat)
 | ret
 /-- ghost: the list or string in t is no longer than M -/
 | sQ (t:Nat) (c:ay)
 /-- ghost: forget temporaries -/
 | drop (bk:List Nat) (c:ay)
 /-- ghost: the heap slice in t becomes immutable -/
 | jV (t e sz:Nat) (c:ay)
 | mX (t off e sz:Nat) (c:ay)
 /-- ghost: the object at t is not used any more -/
 | kill (t:Nat) (c:ay)
 /-- code that is not reached -/
 | bad
inductive fO where
 | normal | exit (id:Nat) | ret
abbrev aR:=Nat→Option AV
section
variable (gl:aR)
def bl (env:Env):aq→Option AV
 | .t n=>match Env.get env n with | some (.v x)=>some x | _=>none
 | .c x=>some x
 | .f n=>some (.fn n [])
 | .g n=>gl n
def dQ (env:Env):List aq→Option (List AV)
 | []=>some []
 | x::r=>match bl gl env x,dQ env r with | some v,some vs=>some (v::vs) | _,_=>none
def c9 (env:Env) (d:Nat):Bool:=match Env.get env d with | some (.b _)=>false | some (.a _ _)=>false | _=>true
def hV (env:Env) (d:Nat):Bool:=env.any fun p=>match p.2 with | .a u _=>u==d | _=>false
def eJ (env:Env) (d:Nat):Bool:=match Env.get env d with | some (.a _ _)=>true | _=>false
def ae.put (s:ae) (d:Nat) (x:AV):Option ae:=if c9 s.env d then some { s with env:=s.env.ins d (.v x) } else none
def ae.hW (s:ae) (d:Nat) (cs:List AV):Option ae:=if hV s.env d||eJ s.env d then none else some { s with env:=s.env.ins d (.b cs) }
def ae.ef (s:ae) (d:Option Nat) (x:AV):Option ae:=match d with | some d=>s.put d x | none=>some s
inductive iD where
 | cV (t off:Nat)
 | ao (id off:Nat)
 | fl (cs:List AV)
def dn (env:Env):aq→Option iD
 | .t n=>match Env.get env n with
  | some (.b _)=>some (.cV n 0)
  | some (.a t off)=>some (.cV t off)
  | some (.v (.ptr id off))=>some (.ao id off)
  | some (.v (.cU cs))=>some (.fl cs)
  | _=>none
 | .g n=>match gl n with | some (.cU cs)=>some (.fl cs) | _=>none
 | _=>none
def aV (s:ae) (n:Nat):iD→Option (List AV)
 | .cV t off=>match Env.get s.env t with
  | some (.b cs)=>if off+n≤cs.length then some ((cs.drop off).take n) else none
  | _=>none
 | .ao id off=>match s.heap[id]? with
  | some (.cells cs)=>if off+n≤cs.length then some ((cs.drop off).take n) else none
  | some (.buf _ cs)=>if off+n≤cs.length then some ((cs.drop off).take n) else none
  | _=>none
 | .fl cs=>if n≤cs.length then some (cs.take n) else none
def eV:List AV→Nat→List AV→List AV
 | cs,_,[]=>cs
 | cs,off,v::r=>eV (cs.set off v) (off+1) r
def aW (s:ae) (vs:List AV):iD→Option ae
 | .cV t off=>match Env.get s.env t with
  | some (.b cs)=>if off+vs.length≤cs.length then some { s with env:=s.env.ins t (.b (eV cs off vs)) } else none
  | _=>none
 | .ao id off=>match s.heap[id]? with
  | some (.cells cs)=>if off+vs.length≤cs.length then some { s with heap:=s.heap.set id (.cells (eV cs off vs)) } else none
  | some (.buf e cs)=>if off+vs.length≤cs.length then some { s with heap:=s.heap.set id (.buf e (eV cs off vs)) } else none
  | _=>none
 | .fl _=>none
def x6 (op:BinOp) (k:IntKind) (a b:Int):Option AV :=
 match op with
 | .add=>some (.int k (k.wrap (a+b)))
 | .sub=>some (.int k (k.wrap (a - b)))
 | .mul=>some (.int k (k.wrap (a*b)))
 | .quo=>if b=0 then none else some (.int k (k.wrap (a.tdiv b)))
 | .rem=>if b=0 then none else some (.int k (a.tmod b))
 | .eql=>some (.bool (a==b))
 | .neq=>some (.bool (a != b))
 | .lss=>some (.bool (decide (a<b)))
 | .leq=>some (.bool (decide (a≤b)))
 | .gtr=>some (.bool (decide (a>b)))
 | .geq=>some (.bool (decide (a≥b)))
 | .shr=>if b=1 then some (.int k (a / 2)) else none
 | _=>none
def x7 (op:BinOp) (a b:List UInt8):Option AV :=
 match op with
 | .add=>if a.length+b.length≤M then some (.str (a++b)) else none
 | .eql=>some (.bool (a==b))
 | .neq=>some (.bool (!(a==b)))
 | .lss=>some (.bool (Op.bytesLess a b))
 | .leq=>some (.bool (Op.bytesLess a b||a==b))
 | .gtr=>some (.bool (!(Op.bytesLess a b||a==b)))
 | .geq=>some (.bool (!(Op.bytesLess a b)))
 | _=>none
def ml:AV→AV→Option Bool
 | .bool a,.bool b=>some (a==b)
 | .int k a,.int k' b=>if k=k' then some (a==b) else none
 | .str a,.str b=>some (a==b)
 | _,_=>none
def eqs:List AV→List AV→Option Bool
 | [],[]=>some true
 | x::r,y::cQ=>match ml x y,eqs r cQ with | some a,some b=>some (a&&b) | _,_=>none
 | _,_=>none
def jz:AV→Nat
 | .int _ _=>0
 | .str _=>1
 | .bool _=>2
 | _=>3
def nU:List Nat→List AV→List AV→Option Bool
 | [],[],[]=>some true
 | k::az,x::r,y::cQ=>if jz x=k then (match ml x y,nU az r cQ with | some a,some b=>some (a&&b) | _,_=>none) else none
 | _,_,_=>none
def vi (m:Nat) (op:BinOp):AV→AV→Option AV
 | .int k a,.int k' b=>if m=0∧k=k' then x6 op k a b else none
 | .str a,.str b=>if m=0 then x7 op a b else none
 | .bool a,.bool b=>if m=3 then (match op with | .eql=>some (.bool (a==b)) | .neq=>some (.bool (!(a==b))) | _=>none) else none
 | .dP,.dP=>if m=2 then (match op with | .eql=>some (.bool true) | .neq=>some (.bool false) | _=>none) else none
 | .dP,.ptr _ _=>if m=2 then (match op with | .eql=>some (.bool false) | .neq=>some (.bool true) | _=>none) else none
 | .ptr a o,.ptr bO bZ=>if m=4∧a=bO∧o=bZ then (match op with | .eql=>some (.bool true) | .neq=>some (.bool false) | _=>none) else none
 | .ptr _ _,.dP=>if m=2 then (match op with | .eql=>some (.bool false) | .neq=>some (.bool true) | _=>none) else none
 | _,_=>none
def jA (env:Env):List AV→List (Nat×Nat×aq)→Option (List AV)
 | z,[]=>some z
 | z,(off,n,x)::r=>match bl gl env x with
  | some v=>if v.cells.length=n∧off+n≤z.length∧v.cells.all AV.one then jA env (eV z off (v.cells.map AV.aL)) r else none
  | none=>none
def hd (env:Env) (oQ:Nat):Option aq→Option Int
 | none=>some oQ
 | some x=>match bl gl env x with | some (.int _ n)=>some n | _=>none
def chunk (sz:Nat):Nat→List AV→List AV
 | 0,_=>[]
 | n+1,cs=>(if sz=1 then (cs.headD default) else .agg (cs.take sz))::chunk sz n (cs.drop sz)
def fA:AV→Bool
 | .str _=>true
 | .int _ _=>true
 | .agg cs=>cs.all fun | .str _ | .int _ _ | .bool _=>true | _=>false
 | _=>false
def e2 (az:List Nat):AV→Bool
 | .str _=>az==[1]
 | .agg cs=>az.length != 1&&az.all (fun k=>k==1||k==2)&&cs.map jz==az
 | _=>false
def lC (az:List Nat):List (AV×AV)→Bool
 | []=>true
 | (k,_)::_=>e2 az k
def cI:AV→AV→Bool
 | .str a,.str b=>a==b
 | .int k a,.int k' b=>k==k'&&a==b
 | .agg a,.agg b=>eqs a b==some true
 | _,_=>false
def Ly:AV→AV→Bool
 | .str a,.str b=>Op.bytesLess a b
 | .int _ a,.int _ b=>decide (a<b)
 | .bool a,.bool b=>!a&&b
 | _,_=>false
def Lz:List AV→List AV→Bool
 | x::r,y::cQ=>Ly x y||(ml x y==some true&&Lz r cQ)
 | _,_=>false
def XM:AV→AV→Bool
 | .agg a,.agg b=>Lz a b
 | x,y=>Ly x y
def gP:List (AV×AV)→AV→Option AV
 | [],_=>none
 | (k,v)::r,x=>if cI x k then some v else gP r x
def oR:List (AV×AV)→AV→AV→List (AV×AV)
 | [],_,_=>[]
 | (k,u)::r,x,v=>if cI x k then (k,v)::r else (k,u)::oR r x v
def sR:List (AV×AV)→AV→AV→List (AV×AV)
 | [],x,v=>[(x,v)]
 | (k,u)::r,x,v=>if XM x k then (x,v)::(k,u)::r else (k,u)::sR r x v
def re:List (AV×AV)→AV→List (AV×AV)
 | [],_=>[]
 | (k,u)::r,x=>if cI x k then r else (k,u)::re r x
def oS (n:Nat) (es:List (AV×AV)) (k v:AV):aM:=match gP es k with | some _=>.map n (oR es k v) | none=>.map (n+1) (sR es k v)
def bytesOf:List AV→Option (List UInt8)
 | []=>some []
 | .int .u8 n::r=>if 0≤n∧n<256 then (bytesOf r).map (UInt8.ofNat n.toNat::·) else none
 | _=>none
def da:List UInt8→List UInt8→Int
 | [],[]=>0
 | [],_::_=>-1
 | _::_,[]=>1
 | a::r,b::t=>if a=b then da r t else if a<b then -1 else 1
def eg (env:Env):aq→Nat
 | .t n=>match Env.get env n with | some (.b _)=>1 | some (.a _ _)=>2 | some (.v (.cU _))=>3 | some (.v (.ptr _ _))=>4 | _=>0
 | .g _=>3
 | _=>0
def ej:bR→aq
 | .aC _ x _ | .ak _ x _ _ | .gO _ x _ _ | .st _ x _ | .fW x _ | .bV _ x=>x
 | _=>.c .dP
def sS (H:List aM):AV→Option (Nat×Option Nat×Nat×List AV×List (AV×AV))
 | .ptr id 0=>match H[id]? with
  | some (.iter none since seen)=>some (id,none,since,seen,[])
  | some (.iter (some a7) since seen)=>match H[a7]? with
   | some (.map n es)=>if n=since then some (id,some a7,since,seen,es.filter fun e=>!seen.any (cI e.1)) else none
   | _=>none
  | _=>none
 | _=>none
def nV (b:Bool) (n:Nat) (H:List aM):Option AV→Option AV→Option (List aM)
 | some (.ptr id off),some u=>match H[id]? with
  | some (.cells cs)=>if b=false∧u.cells.length=n∧u.cells.all AV.one=true∧off+n≤cs.length then some (H.set id (.cells (eV cs off (u.cells.map AV.aL)))) else none
  | some (.buf e cs)=>if b=true∧u.cells.length=n∧u.cells.all AV.one=true∧off+n≤cs.length then some (H.set id (.buf e (eV cs off (u.cells.map AV.aL)))) else none
  | _=>none
 | _,_=>none
def au (s:ae):bR→Option ae
 | .I d x=>(bl gl s.env x).bind fun v=>s.put d v.aL
 | .bg d x=>match Env.get s.env x with
  | some (.v (.list (some e) sz xs))=>if d=x then none else (s.put x (.list none sz xs)).bind fun s=>s.put d (.list (some e) sz xs)
  | some (.v v)=>s.put d v.aL
  | _=>none
 | .hr d e sz=>s.put d (.list (some e) sz [])
 | .pick d c a b=>match bl gl s.env c with
  | some (.bool t)=>if t=true then (bl gl s.env a).bind fun v=>s.put d v.aL else (bl gl s.env b).bind fun v=>s.put d v.aL
  | _=>none
 | .bin d m op x y=>match bl gl s.env x,bl gl s.env y with
  | some a,some b=>(vi m op a b).bind fun v=>s.put d v
  | _,_=>none
 | .kV d ne az x y=>match bl gl s.env x,bl gl s.env y with
  | some (.agg a),some (.agg b)=>(nU az a b).bind fun r=>s.put d (.bool (if ne=true then !r else r))
  | _,_=>none
 | .cB d x=>match bl gl s.env x with | some (.bool b)=>s.put d (.bool (!b)) | _=>none
 | .neg d x=>match bl gl s.env x with | some (.int k n)=>s.put d (.int k (k.wrap (0 - n))) | _=>none
 | .conv d k x=>match bl gl s.env x with | some (.int _ n)=>s.put d (.int k (k.wrap n)) | _=>none
 | .ext d x i=>match Env.get s.env x with | some (.v (.bw vs))=>(vs[i]?).bind fun v=>s.put d v.aL | _=>none
 | .len d m x=>match bl gl s.env x with
  | some (.list _ _ xs)=>if m=1 then s.put d (.int .i64 xs.length) else none
  | some (.str b)=>if m=0 then s.put d (.int .i64 b.length) else none
  | some .eN=>if m=2 then s.put d (.int .i64 0) else none
  | some (.aH _)=>if m=1 then s.put d (.int .i64 0) else none
  | some (.eE _)=>if m=1 then s.put d (.int .i64 0) else none
  | some (.bI _ _ n _)=>if m=1 then s.put d (.int .i64 n) else none
  | some (.map id)=>if m=2 then (match s.heap[id]? with | some (.map _ es)=>s.put d (.int .i64 es.length) | _=>none) else none
  | _=>none
 | .alloc d z=>s.hW d z
 | .box d x=>(bl gl s.env x).bind fun v=>if v.cells.all AV.one then s.hW d (v.cells.map AV.aL) else none
 | .g0 d z=>({ s with heap:=s.heap++[aM.cells z] }).put d (.ptr s.heap.length 0)
 | .iR d x=>(bl gl s.env x).bind fun v=>if v.cells.all AV.one then ({ s with heap:=s.heap++[aM.cells (v.cells.map AV.aL)] }).put d (.ptr s.heap.length 0) else none
 | .cz d x=>(bl gl s.env x).bind fun v=>if v.cells.all AV.dw then s.put d (.cU v.cells) else none
 | .build d z parts=>(jA gl s.env z parts).bind fun cs=>s.put d (.agg cs)
 | .lit d sz xs=>(dQ gl s.env xs).bind fun vs =>
   if vs.all (fun v=>v.aL.pure&&v.cells.length==sz)&&decide (vs.length≤1000) then s.put d (.list none sz (vs.map AV.aL)) else none
 | .aC d x off=>match dn gl s.env x with
  | some (.cV t o)=>if c9 s.env d then some { s with env:=s.env.ins d (.a t (o+off)) } else none
  | some (.ao id o)=>s.put d (.ptr id (o+off))
  | some (.fl cs)=>if off≤cs.length then s.put d (.cU (cs.drop off)) else none
  | none=>none
 | .bm d sz x i=>match bl gl s.env x,bl gl s.env i with
  | some (.list _ b8 xs),some (.int _ n)=>if b8=sz∧0≤n∧n<xs.length then (xs[n.toNat]?).bind fun v=>s.put d (.cU v.cells) else none
  | some (.bI id off m b8),some (.int _ n)=>if b8=sz∧0≤n∧n<m then s.put d (.ptr id (off+n.toNat*sz)) else none
  | _,_=>none
 | .jR d x n sz i=>match dn gl s.env x,bl gl s.env i with
  | some (.cV t o),some (.int _ k)=>if 0≤k∧k<n∧c9 s.env d=true then some { s with env:=s.env.ins d (.a t (o+k.toNat*sz)) } else none
  | some (.ao id o),some (.int _ k)=>if 0≤k∧k<n then s.put d (.ptr id (o+k.toNat*sz)) else none
  | some (.fl cs),some (.int _ k)=>if 0≤k∧k<n∧n*sz≤cs.length then s.put d (.cU (cs.drop (k.toNat*sz))) else none
  | _,_=>none
 | .ak d x n ag=>(dn gl s.env x).bind fun p=>(aV s n p).bind fun cs =>
   if ag=true then s.put d (.agg (cs.map AV.aL)) else match cs with | [v]=>s.put d v.aL | _=>none
 | .gO d x e sz=>(dn gl s.env x).bind fun p=>(aV s 1 p).bind fun cs=>match cs with
   | [.list (some e) sz xs]=>(aW s [.list none sz xs] p).bind fun s=>s.put d (.list (some e) sz xs)
   | [.aH _]=>s.put d (.list (some e) sz [])
   | _=>none
 | .st n x v=>(dn gl s.env x).bind fun p=>(bl gl s.env v).bind fun v=>if v.cells.length=n∧v.cells.all AV.one then aW s (v.cells.map AV.aL) p else none
 | .fW x v=>(dn gl s.env x).bind fun p=>match Env.get s.env v with
   | some (.v (.list (some e) sz xs))=>(s.put v (.list none sz xs)).bind fun s=>aW s [.list (some e) sz xs] p
   | _=>none
 | .idx d x i=>match bl gl s.env x,bl gl s.env i with
  | some (.str b),some (.int _ n)=>if 0≤n then (b[n.toNat]?).bind fun c=>s.put d (.int .u8 c.toNat) else none
  | _,_=>none
 | .hU d g2 x aX av=>match bl gl s.env x with
  | some (.str b)=>match hd gl s.env 0 aX,hd gl s.env b.length av with
   | some l,some h=>if g2=0∧0≤l∧l≤h∧h≤b.length then s.put d (.str ((b.take h.toNat).drop l.toNat)) else none
   | _,_=>none
  | some (.list _ sz xs)=>match hd gl s.env 0 aX,hd gl s.env xs.length av with
   | some l,some h=>if g2=sz∧sz≠0∧0≤l∧l≤h∧h≤xs.length then s.put d (.list none sz ((xs.take h.toNat).drop l.toNat)) else none
   | _,_=>none
  | some (.aH sz)=>match hd gl s.env 0 aX,hd gl s.env 0 av with
   | some l,some h=>if g2=sz∧sz≠0∧l=0∧h=0 then s.put d (.aH sz) else none
   | _,_=>none
  | some (.bI id off n sz)=>match hd gl s.env 0 aX,hd gl s.env n av with
   | some l,some h=>if g2=sz∧sz≠0∧0≤l∧l≤h∧h≤n then (if 0<l∧l=h then s.put d (.list none sz []) else s.put d (.bI id (off+l.toNat*sz) (h.toNat - l.toNat) sz)) else none
   | _,_=>none
  | _=>none
 | .jw d x n sz aX av=>match dn gl s.env x with
  | some (.fl cs)=>if cs.length=n*sz∧n≤1000 then match hd gl s.env 0 aX,hd gl s.env n av with
   | some l,some h=>if 0≤l∧l≤h∧h≤n then s.put d (.list none sz (((chunk sz n cs).take h.toNat).drop l.toNat)) else none
   | _,_=>none
   else none
  | _=>none
 | .app d u x e sz=>match Env.get s.env u,(bl gl s.env x).bind AV.fy with
  | some (.v (.list (some bH) b8 xs)),some (gA,ys) =>
   if bH=e∧b8=sz∧gA=sz∧d≠u∧xs.length+ys.length≤M then
    (s.put u (.list none sz xs)).bind fun s=>s.put d (.list (some e) sz (xs++ys)) else none
  | some (.v (.aH b8)),some (gA,ys)=>if b8=sz∧gA=sz∧d≠u∧ys.length≤M then s.put d (.list (some e) sz ys) else none
  | _,_=>none
 | .bV d x=>match x with
  | .t n=>match Env.get s.env n with
   | some (.b _)=>if c9 s.env d then some { s with env:=s.env.ins d (.a n 0) } else none
   | some (.a t off)=>if c9 s.env d then some { s with env:=s.env.ins d (.a t off) } else none
   | some (.v (.ptr id off))=>s.put d (.ptr id off)
   | some (.v (.cU cs))=>s.put d (.cU cs)
   | _=>none
  | _=>none
 | .iS d f eu=>(dQ gl s.env eu).bind fun vs=>if vs.all AV.one then s.put d (.fn f (vs.map AV.aL)) else none
 | .lz d c e sz=>match bl gl s.env c with
  | some (.int _ n)=>if 0≤n∧n≤M then s.put d (.list (some e) sz []) else none
  | _=>none
 | .mR d e z=>({ s with heap:=s.heap++[aM.buf e z,.dead] }).put d (.ptr s.heap.length 0)
 | .mh d x e sz=>match bl gl s.env x with
  | some (.ptr id 0)=>(match s.heap[id]? with | some (.buf bH cs)=>if bH=e∧sz≤cs.length then s.put d (.ptr id 0) else none | _=>none)
  | _=>none
 | .jS d fz x y=>match bl gl s.env x,bl gl s.env y with
  | some (.int k a),some (.int _ b)=>s.put d (.int k (if fz=true then (if b>a then b else a) else (if b<a then b else a)))
  | _,_=>none
 | .jx d=>({ s with heap:=s.heap++[aM.map 0 []] }).put d (.map s.heap.length)
 | .look az d m k zero ok=>match bl gl s.env m,bl gl s.env k with
  | some (.map id),some kk=>match s.heap[id]? with
   | some (.map _ es)=>if e2 az kk&&lC az es then
     (match gP es kk with
      | some v=>s.put d (if ok=true then .bw [v.aL,.bool true] else v.aL)
      | none=>s.put d (if ok=true then .bw [zero,.bool false] else zero)) else none
   | _=>none
  | some .eN,some kk=>if e2 az kk then s.put d (if ok=true then .bw [zero,.bool false] else zero) else none
  | _,_=>none
 | .fX az d m k zero=>match bl gl s.env m,bl gl s.env k with
  | some (.map id),some kk=>match s.heap[id]? with
   | some (.map n es)=>if e2 az kk&&lC az es then
     (match gP es kk with
      | some (.list (some e) sz xs)=>({ s with heap:=s.heap.set id (.map n (oR es kk (.list none sz xs))) }).put d (.list (some e) sz xs)
      | some _=>none
      | none=>s.put d zero) else none
   | _=>none
  | _,_=>none
 | .iT az m k v=>match bl gl s.env m,bl gl s.env k,bl gl s.env v with
  | some (.map id),some kk,some v=>match s.heap[id]? with
   | some (.map n es)=>if e2 az kk&&lC az es then some { s with heap:=s.heap.set id (oS n es kk v.aL) } else none
   | _=>none
  | _,_,_=>none
 | .lA az m k v=>match bl gl s.env m,bl gl s.env k,Env.get s.env v with
  | some (.map id),some kk,some (.v (.list (some e) sz xs))=>match s.heap[id]? with
   | some (.map n es)=>if e2 az kk&&lC az es then ({ s with heap:=s.heap.set id (oS n es kk (.list (some e) sz xs)) }).put v (.list none sz xs) else none
   | _=>none
  | _,_,_=>none
 | .kW az d m k=>match bl gl s.env m,bl gl s.env k with
  | some (.map id),some kk=>match s.heap[id]? with
   | some (.map n es)=>if e2 az kk&&lC az es then ({ s with heap:=s.heap.set id (.map n (re es kk)) }).ef d (.bw []) else none
   | _=>none
  | _,_=>none
 | .kX d m=>match bl gl s.env m with
  | some (.map id)=>match s.heap[id]? with
   | some (.map n _)=>({ s with heap:=s.heap++[aM.iter (some id) n []] }).put d (.ptr s.heap.length 0)
   | _=>none
  | some .eN=>({ s with heap:=s.heap++[aM.iter none 0 []] }).put d (.ptr s.heap.length 0)
  | _=>none
 | .iU d it=>match bl gl s.env it with
  | some (.ptr id 0)=>match s.heap[id]? with
   | some (.iter (some a7) since seen)=>match s.heap[a7]?,seen.getLast? with
    | some (.map n es),some k=>if n=since then (gP es k).bind fun v=>s.put d (.bw [k,v.aL]) else none
    | _,_=>none
   | _=>none
  | _=>none
 | .mi d e sz xs=>(dQ gl s.env xs).bind fun vs =>
   if vs.all (fun v=>v.aL.pure&&v.cells.length==sz)&&decide (vs.length≤1000) then s.put d (.list (some e) sz (vs.map AV.aL)) else none
 | .kr d e sz xs=>(dQ gl s.env xs).bind fun vs =>
   if vs.all (fun v=>v.cells.length==sz&&v.cells.all AV.one)&&decide (vs.length≤1000)&&sz != 0 then
    ({ s with heap:=s.heap++[aM.buf e (vs.map fun v:AV=>v.cells.map AV.aL).flatten,.dead] }).put d (.bI s.heap.length 0 vs.length sz) else none
 | .jT d e z x=>match bl gl s.env x with
  | some (.int _ n)=>if 0≤n∧n≤100000 then ({ s with heap:=s.heap++[aM.buf e (List.replicate n.toNat z).flatten,.dead] }).put d (.bI s.heap.length 0 n.toNat z.length) else none
  | _=>none
 | .jy d e sz sb u x=>match bl gl s.env u,(bl gl s.env x).bind (AV.sP sb) with
  | some (.aH jW),some (b8,ys)=>if jW=sz∧b8=sz∧ys.length≤M then match ys with
    | []=>s.put d (.aH sz)
    | _::_=>({ s with heap:=s.heap++[aM.buf e (ys.map fun v:AV=>v.cells.map AV.aL).flatten,.dead] }).put d (.bI s.heap.length 0 ys.length sz)
    else none
  | some (.bI id 0 n jW),some (b8,ys)=>match s.heap[id]? with
   | some (.buf bH cs)=>if bH=e∧jW=sz∧b8=sz∧n*sz≤cs.length∧n+ys.length≤M then
     ({ s with heap:=s.heap.set id .dead++[aM.buf e ((cs.take (n*sz)).map AV.aL++(ys.map fun v:AV=>v.cells.map AV.aL).flatten),.dead] }).put d (.bI s.heap.length 0 (n+ys.length) sz) else none
   | _=>none
  | _,_=>none
 | .mj d u x e sz=>match Env.get s.env u,(bl gl s.env x).bind AV.fy with
  | some (.v (.fb b8)),some (gA,ys)=>if b8=sz∧gA=sz∧ys.length≤M then match ys with
    | []=>s.put d (.list none sz [])
    | _::_=>s.put d (.list (some e) sz ys)
    else none
  | _,_=>none
 | .mS d u x e sz=>match Env.get s.env u,(bl gl s.env x).bind AV.fy with
  | some (.v (.fb b8)),some (gA,ys)=>if b8=sz∧gA=sz∧ys.length≤M then match ys with
    | []=>s.put d (.list none sz [])
    | _::_=>({ s with heap:=s.heap++[aM.buf e (ys.map fun v:AV=>v.cells.map AV.aL).flatten,.dead] }).put d (.bI s.heap.length 0 ys.length sz)
    else none
  | _,_=>none
 | .jU d ne x=>match bl gl s.env x with
  | some (.aH _)=>s.put d (.bool (!ne))
  | some (.eE _)=>s.put d (.bool ne)
  | some (.list _ _ (_::_))=>s.put d (.bool ne)
  | _=>none
 | .nT d x sz=>match bl gl s.env x with
  | some (.list _ b8 _)=>if b8=sz then s.put d (.fb sz) else none
  | some (.aH b8)=>if b8=sz then s.put d (.fb sz) else none
  | _=>none
 | .mT d x=>match bl gl s.env x with
  | some (.bI id off n _)=>if 0<n then s.put d (.ptr id off) else none
  | some (.aH _)=>s.put d .dP
  | _=>none
 | .mU d e x n=>match bl gl s.env x,bl gl s.env n with
  | some (.ptr id 0),some (.int .i64 n)=>match s.heap[id]? with
   | some (.buf bH cs)=>if bH=e∧0<n∧n≤cs.length∧n≤M then (bytesOf (cs.take n.toNat)).bind fun b=>({ s with heap:=s.heap.set id .dead }).put d (.str b) else none
   | _=>none
  | some .dP,some (.int .i64 n)=>if n=0 then s.put d (.str []) else none
  | _,_=>none
 | .mV d _ x=>(bl gl s.env x).bind fun v=>s.put d v.aL
 | .iC b n x v=>(nV b n s.heap (bl gl s.env x) (bl gl s.env v)).map fun H=>{ s with heap:=H }
 | .mW _ z x=>match bl gl s.env x with
  | some (.bI id off n sz)=>if z.length=sz∧0<n then aW s (List.replicate n z).flatten (.ao id off) else if n=0 then some s else none
  | some (.list _ _ [])=>some s
  | some (.aH _)=>some s
  | _=>none
 | .lB d _ x y=>match bl gl s.env x,bl gl s.env y with
  | some (.str a),some (.str b)=>s.put d (.int .i64 (da a b))
  | _,_=>none
 | .on m o=>if eg s.env (ej o)=m then au s o else none
 | .bad _=>none
 | .hs .. | .g1 .. | .hK .. | .aQ .. | .bF .. | .eU ..=>none
end
end AM
/-! The relation between the abstract machine's states and the model's. -/
namespace AM
open Go
abbrev dp:=Nat→Nat→Option Value
mutual
inductive cp (γ:dp):AV→Value→Prop where
 | bool (b:Bool):cp γ (.bool b) (.bool b)
 | int (k:IntKind) (n:Int):cp γ (.int k n) (.int k n)
 | str (s:List UInt8):s.length≤M→cp γ (.str s) (.string ⟨s.toArray⟩)
 | dP:cp γ .dP (.pointer none)
 | eN:cp γ .eN (.map none)
 | gz:cp γ .gz .nilFunc
 | gm:cp γ .gm .nilIface
 | aH (sz:Nat):cp γ (.aH sz) (.slice none 0 0)
 | cU (b off:Nat) (cs:List AV):dt γ b off cs→cp γ (.cU cs) (.pointer (some ⟨b,off,none⟩))
 | fP (sz:Nat) (base:Option Addr) (cap:Nat):(base=none→cap=0)→cp γ (.list none sz []) (.slice base 0 cap)
 | eE (sz:Nat) (base:Addr) (cap:Nat):cp γ (.eE sz) (.slice (some base) 0 cap)
 | list (b off cap sz:Nat) (xs:List AV):xs.length≤M→xs.length≤cap→dd γ b off sz xs→cp γ (.list none sz xs) (.slice (some ⟨b,off,none⟩) xs.length cap)
 | agg (cs:List AV) (ws:List Value):e3 γ cs ws→cp γ (.agg cs) (.agg ws.toArray)
inductive dt (γ:dp):Nat→Nat→List AV→Prop where
 | nil (b off:Nat):dt γ b off []
 | cons (b off:Nat) (c:AV) (cs:List AV) (v:Value):γ b off=some v→v.oneCell'=true→cp γ c v→dt γ b (off+1) cs→dt γ b off (c::cs)
inductive dd (γ:dp):Nat→Nat→Nat→List AV→Prop where
 | nil (b off sz:Nat):dd γ b off sz []
 | cons (b off sz:Nat) (x:AV) (xs:List AV):x.cells.length=sz→dt γ b off x.cells→dd γ b (off+sz) sz xs→dd γ b off sz (x::xs)
inductive e3 (γ:dp):List AV→List Value→Prop where
 | nil:e3 γ [] []
 | cons (c:AV) (cs:List AV) (v:Value) (ws:List Value):v.oneCell'=true→cp γ c v→e3 γ cs ws→e3 γ (c::cs) (v::ws)
end
inductive dh where
 | none | outer | vj
 | var (t:Nat)
 | cV (t:Nat)
 | lD (t i:Nat)
 | bt (id:Nat)
 | oc (id i:Nat)
 deriving DecidableEq
structure a5 where
 γ:dp
 bd:Nat→dh
 b4:Nat→Option Nat
mutual
inductive aU (g:a5):AV→Value→Prop where
 | pure (x:AV) (v:Value):cp g.γ x v→aU g x v
 | own (e sz:Nat) (xs:List AV) (v:Value):cp g.γ (.list none sz xs) v→aU g (.list (some e) sz xs) v
 | ptr (id off b:Nat):g.b4 id=some b→aU g (.ptr id off) (.pointer (some ⟨b,off,none⟩))
 | map (id b:Nat):g.b4 id=some b→aU g (.map id) (.map (some b))
 | fb (sz:Nat) (base:Option Addr):aU g (.fb sz) (.slice base 0 0)
 | bI (id off n sz b k cap:Nat):g.b4 id=some b→g.b4 (id+1)=some k→off+cap*sz=k→n≤cap→aU g (.bI id off n sz) (.slice (some ⟨b,off,none⟩) n cap)
 | fn (f:Nat) (cs:List AV) (ws:List Value):bW g cs ws→aU g (.fn f cs) (.func (.func f) #[] ws.toArray)
 | agg (cs:List AV) (ws:List Value):bW g cs ws→(∀w∈ws,w.oneCell'=true)→aU g (.agg cs) (.agg ws.toArray)
 | bw (cs:List AV) (ws:List Value):bW g cs ws→aU g (.bw cs) (.tuple ws.toArray)
inductive bW (g:a5):List AV→List Value→Prop where
 | nil:bW g [] []
 | cons (c:AV) (cs:List AV) (v:Value) (ws:List Value):aU g c v→bW g cs ws→bW g (c::cs) (v::ws)
end
def p4 (γ dq:dp):Prop:=∀b o v,γ b o=some v→dq b o=some v
theorem cp.mono {γ dq:dp} (h:p4 γ dq) {x:AV} {v:Value} (ai:cp γ x v):cp dq x v:=by
 refine cp.rec (motive_1:=fun x v _=>cp dq x v) (motive_2:=fun b off cs _=>dt dq b off cs) (motive_3:=fun b off sz xs _=>dd dq b off sz xs)
  (motive_4:=fun cs ws _=>e3 dq cs ws) ?_ ?_ ?_ ?_ ?_ ?_ ?_ ?_ ?_ ?_ ?_ ?_ ?_ ?_ ?_ ?_ ?_ ?_ ?_ ai
 ·exact fun b=>.bool b
 ·exact fun k n=>.int k n
 ·exact fun s aS=>.str s aS
 ·exact .dP
 ·exact .eN
 ·exact .gz
 ·exact .gm
 ·exact fun sz=>.aH sz
 ·exact fun b off cs _ h=>.cU b off cs h
 ·exact fun sz base cap h=>.fP sz base cap h
 ·exact fun sz base cap=>.eE sz base cap
 ·exact fun b off cap sz xs R lE _ aa=>.list b off cap sz xs R lE aa
 ·exact fun cs ws _ h=>.agg cs ws h
 ·exact fun b off=>.nil b off
 ·exact fun b off c cs v R aa _ _ al aY=>.cons b off c cs v (h _ _ _ R) aa al aY
 ·exact fun b off sz=>.nil b off sz
 ·exact fun b off sz x xs R _ _ aa al=>.cons b off sz x xs R aa al
 ·exact .nil
 ·exact fun c cs v ws R _ _ aa al=>.cons c cs v ws R aa al
theorem dt.mono {γ dq:dp} (h:p4 γ dq):∀{cs:List AV} {b off:Nat},dt γ b off cs→dt dq b off cs
 | [],_,_,_=>.nil _ _
 | _::_,_,_,.cons _ _ _ _ v R aa al aY=>.cons _ _ _ _ v (h _ _ _ R) aa (al.mono h) (dt.mono h aY)
theorem dd.mono {γ dq:dp} (h:p4 γ dq):∀{xs:List AV} {b off sz:Nat},dd γ b off sz xs→dd dq b off sz xs
 | [],_,_,_,_=>.nil _ _ _
 | _::_,_,_,_,.cons _ _ _ _ _ R aa al=>.cons _ _ _ _ _ R (aa.mono h) (dd.mono h al)
structure GhLe (g g':a5):Prop where
 γ:p4 g.γ g'.γ
 b4:∀id b,g.b4 id=some b→g'.b4 id=some b
theorem aU.mono {g g':a5} (h:GhLe g g') {x:AV} {v:Value} (ai:aU g x v):aU g' x v:=by
 refine aU.rec (motive_1:=fun x v _=>aU g' x v) (motive_2:=fun cs ws _=>bW g' cs ws) ?_ ?_ ?_ ?_ ?_ ?_ ?_ ?_ ?_ ?_ ?_ ai
 ·exact fun x v ao=>.pure x v (ao.mono h.γ)
 ·exact fun e sz xs v ao=>.own e sz xs v (ao.mono h.γ)
 ·exact fun id off b ah=>.ptr id off b (h.b4 _ _ ah)
 ·exact fun id b ah=>.map id b (h.b4 _ _ ah)
 ·exact fun sz base=>.fb sz base
 ·exact fun id off n sz b k cap R aa al aY=>.bI id off n sz b k cap (h.b4 _ _ R) (h.b4 _ _ aa) al aY
 ·exact fun f cs ws _ af=>.fn f cs ws af
 ·exact fun cs ws _ R af=>.agg cs ws af R
 ·exact fun cs ws _ af=>.bw cs ws af
 ·exact .nil
 ·exact fun c cs v ws _ _ R aa=>.cons c cs v ws R aa
theorem bW.mono {g g':a5} (h:GhLe g g'):∀{cs:List AV} {ws:List Value},bW g cs ws→bW g' cs ws
 | [],_,.nil=>.nil
 | _::_,_,.cons _ _ _ _ R aa=>.cons _ _ _ _ (R.mono h) (bW.mono h aa)
def dX (P:Program) (g:a5) (w:World) (o:dh) (x:AV) (v:Value):Prop :=
 ∀e sz xs,x=.list (some e) sz xs→∃i z vs,P.info? e=some i∧i.size=sz∧0<sz∧i.zero=some z∧z.cells.size=sz∧i.bytes≤128 ∧
  xs.length≤M∧w.ownsRow 0 e sz v xs.length vs∧∀b,v.ownBlock=some b→g.bd b=o∧dd g.γ b 0 sz xs∧∀off,xs.length*sz≤off→g.γ b off=none
def gB (P:Program) (g:a5) (w:World) (b:Nat) (o:dh) (oc:Nat→dh) (cs:List AV):Prop :=
 ∃arr ty,w.heap[b]?=some (.cells arr ty (0,0))∧cs.length≤arr.size∧g.bd b=o∧(∀off,g.γ b off=none) ∧
  ∀i c,cs[i]?=some c→∃v,arr[i]?=some v∧v.oneCell'=true∧aU g c v∧dX P g w (oc i) c v
def ptrTo (b off:Nat):Value:=.pointer (some ⟨b,off,none⟩)
def rf (P:Program) (g:a5) (env:Env) (a:Act) (w:World) (t:Nat):bU→Prop
 | .v x=>∃v,a.tmps[t]?=some v∧aU g x v∧dX P g w (.var t) x v
 | .b cs=>∃b,a.tmps[t]?=some (ptrTo b 0)∧gB P g w b (.cV t) (.lD t) cs
 | .a u off=>(∃cs,env.get u=some (.b cs))∧∃b,a.tmps[t]?=some (ptrTo b off)∧a.tmps[u]?=some (ptrTo b 0)
def sT (P:Program) (g:a5) (w:World) (id:Nat) (e:AV×AV) (m:MapEntry):Prop :=
 aU g e.1 m.key∧fA e.1=true∧aU g e.2 m.val∧dX P g w (.oc id m.born) e.2 m.val
def x8 (P:Program) (g:a5) (w:World) (id:Nat) (es:List (AV×AV)) (arr:List MapEntry):Prop :=
 ∃b9:List (AV×AV),b9.Perm es∧b9.length=arr.length∧∀(i:Nat) e m,b9[i]?=some e→arr[i]?=some m→sT P g w id e m
def iV (P:Program) (g:a5) (w:World) (id b n:Nat) (es:List (AV×AV)):Prop :=
 ∃arr,w.heap[b]?=some (.map arr n)∧g.bd b=.bt id∧x8 P g w id es arr.toList ∧
  arr.toList.Pairwise (fun x y=>x.born<y.born)∧(∀m∈arr.toList,m.born<n)∧es.Pairwise (fun x y=>cI x.1 y.1=false)∧∃az,∀e∈es,e2 az e.1=true
def x9 (w:World) (b1 since:Nat) (seen:List AV) (eO:List Nat):Prop :=
 ∃L:List (AV×Nat),L.Pairwise (fun x y=>cI x.1 y.1=false∧x.2≠y.2)∧(∀x∈L,x.2<since∧fA x.1=true)∧seen.length=eO.length ∧
  (∀(i:Nat) k s,seen[i]?=some k→eO[i]?=some s→(k,s)∈L) ∧
  ∀arr,w.heap[b1]?=some (.map arr since)→∀m∈arr.toList,∃k,(k,m.born)∈L∧cp (fun _ _=>none) k m.key
def kY (g:a5) (w:World) (since:Nat) (seen:List AV):Option Nat→Obj→Prop
 | none,.mapIter none _ _ _=>True
 | some a7,.mapIter (some b1) s eO last=>g.b4 a7=some b1∧g.bd b1=.bt a7∧s=since∧last=since∧x9 w b1 since seen eO.toList∧∃arr n,w.heap[b1]?=some (.map arr n)∧since≤n
 | _,_=>False
def mY (P:Program) (g:a5) (w:World) (id:Nat):aM→Prop
 | .cells cs=>∃b,g.b4 id=some b∧gB P g w b (.bt id) (.oc id) cs
 | .buf e cs=>∃b k,g.b4 id=some b∧g.b4 (id+1)=some k∧gB P g w b (.bt id) (.oc id) cs ∧
   (∃arr,w.heap[b]?=some (.cells arr e (0,0))∧arr.size=k)∧∃i z,P.info? e=some i∧0<i.size∧i.zero=some z∧z.cells.size=i.size∧i.bytes≤128∧k≤maxLen*i.size
 | .map n es=>∃b,g.b4 id=some b∧iV P g w id b n es
 | .iter m since seen=>∃b o,g.b4 id=some b∧w.heap[b]?=some o∧g.bd b=.bt id∧kY g w since seen m o
 | .dead=>True
structure Rel (P:Program) (gl:aR) (N:Nat) (g:a5) (s:ae) (a:Act) (w:World):Prop where
 sorted:s.env.Pairwise fun p q=>p.1<q.1
 size:a.tmps.size=N
 defers:a.defers=[]
 env:∀t e,s.env.get t=some e→rf P g s.env a w t e
 heap:∀(id:Nat) o,s.heap[id]?=some o→mY P g w id o
 dY:∀b off v,g.γ b off=some v→w.cell? ⟨b,off,none⟩=some v
 own:∀b,g.bd b≠.none→b<w.heap.size
 e4:∀n x,gl n=some x→cp g.γ x (ptrTo n 0)
 er:∀id b,g.b4 id=some b→id<s.heap.length
structure dj (g:a5) (w:World) (g':a5) (w':World):Prop extends GhLe g g' where
 outer:∀b,g.bd b=.outer→g'.bd b=.outer∧w'.heap[b]?=w.heap[b]?∧∀o,g'.γ b o=g.γ b o
 size:w.heap.size≤w'.heap.size
 os:(w'.os,w'.tape)=(w.os,w.tape)
 out:w'.output=w.output
theorem dj.refl (g:a5) (w:World):dj g w g w:=⟨⟨fun _ _ _ h=>h,fun _ _ h=>h⟩,fun _ h=>⟨h,rfl,fun _=>rfl⟩,Nat.le_refl _,rfl,rfl⟩
theorem dj.trans {g g' ya:a5} {w w' yb:World} (h:dj g w g' w') (cC:dj g' w' ya yb):dj g w ya yb :=
 ⟨⟨fun _ _ _ x=>cC.γ _ _ _ (h.γ _ _ _ x),fun _ _ x=>cC.b4 _ _ (h.b4 _ _ x)⟩,
  fun b ah=>by
  obtain ⟨R,aa,al⟩:=h.outer b ah
  obtain ⟨aY,bn,cw⟩:=cC.outer b R
  exact ⟨aY,bn.trans aa,fun o=>(cw o).trans (al o)⟩,Nat.le_trans h.size cC.size,cC.os.trans h.os,cC.out.trans h.out⟩
def Kept (g:a5) (w:World) (g':a5) (w':World) (K:dh→Prop):Prop :=
 ∀b,K (g.bd b)→g'.bd b=g.bd b∧w'.heap[b]?=w.heap[b]?∧∀o,g'.γ b o=g.γ b o
theorem dX.jX {P:Program} {g:a5} {w:World} {o:dh} {x:AV} {v:Value} (h:∀e sz xs,x≠.list (some e) sz xs):dX P g w o x v :=
 fun e sz xs ai=>absurd ai (h e sz xs)
theorem XN {w w':World} {base:Nat} {e size:Nat} {v:Value} {n:Nat} {xs:List Value} (h:w.ownsRow base e size v n xs)
  (ab:∀b,v.ownBlock=some b→w'.heap[b]?=w.heap[b]?):w'.ownsRow base e size v n xs:=by
 refine ⟨h.1,?_⟩
 rcases h.2 with h | ⟨g,cap,cur,rfl,R,aa,al⟩
 ·exact .inl h
 ·exact .inr ⟨g,cap,cur,rfl,R,(ab g rfl).trans aa,al⟩
theorem dX.kept {P:Program} {g g':a5} {w w':World} {K:dh→Prop} {o:dh} {x:AV} {v:Value} (h:dX P g w o x v) (aK:GhLe g g')
  (ab:Kept g w g' w' K) (aE:K o):dX P g' w' o x v:=by
 intro e sz xs ai
 obtain ⟨i,z,vs,R,aa,al,aY,bn,cw,oT,dr,hL⟩:=h e sz xs ai
 refine ⟨i,z,vs,R,aa,al,aY,bn,cw,oT,XN dr fun b ah=>?_,fun b ah=>?_⟩
 ·have:=(hL b ah).1
  exact (ab b (by rw [this];exact aE)).2.1
 ·obtain ⟨hM,Bv,oU⟩:=hL b ah
  obtain ⟨bN,cb,ds⟩:=ab b (by rw [hM];exact aE)
  exact ⟨bN.trans hM,Bv.mono aK.γ,fun off rh=>(ds off).trans (oU off rh)⟩
theorem gB.kept {P:Program} {g g':a5} {w w':World} {K:dh→Prop} {b:Nat} {o:dh} {oc:Nat→dh} {cs:List AV} (h:gB P g w b o oc cs)
  (aK:GhLe g g') (ab:Kept g w g' w' K) (aE:K o) (Bw:∀i,K (oc i)):gB P g' w' b o oc cs:=by
 obtain ⟨arr,ty,R,aa,al,aY,bn⟩:=h
 obtain ⟨bN,cb,ds⟩:=ab b (by rw [al];exact aE)
 refine ⟨arr,ty,cb.trans R,aa,bN.trans al,fun off=>(ds off).trans (aY off),fun i c af=>?_⟩
 obtain ⟨v,cw,dr,hL,hM⟩:=bn i c af
 exact ⟨v,cw,dr,hL.mono aK,hM.kept aK ab (Bw i)⟩
theorem rf.kept {P:Program} {g g':a5} {w w':World} {K:dh→Prop} {env:Env} {a:Act} {t:Nat} {e:bU} (h:rf P g env a w t e)
  (aK:GhLe g g') (ab:Kept g w g' w' K) (R:K (.var t)) (aa:K (.cV t)) (al:∀i,K (.lD t i)):rf P g' env a w' t e:=by
 cases e with
 | v x=>obtain ⟨v,aG,aJ,bo⟩:=h;exact ⟨v,aG,aJ.mono aK,bo.kept aK ab R⟩
 | b cs=>obtain ⟨b,aG,aJ⟩:=h;exact ⟨b,aG,aJ.kept aK ab aa al⟩
 | a u off=>exact h
theorem x8.kept {P:Program} {g g':a5} {w w':World} {K:dh→Prop} {id:Nat} {es:List (AV×AV)} {arr:List MapEntry} (h:x8 P g w id es arr)
  (aK:GhLe g g') (ab:Kept g w g' w' K) (al:∀i,K (.oc id i)):x8 P g' w' id es arr:=by
 obtain ⟨b9,aG,aJ,bo⟩:=h
 refine ⟨b9,aG,aJ,fun i e m he hm=>?_⟩
 obtain ⟨an,ar,aO,bD⟩:=bo i e m he hm
 exact ⟨an.mono aK,ar,aO.mono aK,bD.kept aK ab (al _)⟩
theorem iV.kept {P:Program} {g g':a5} {w w':World} {K:dh→Prop} {id b n:Nat} {es:List (AV×AV)} (h:iV P g w id b n es)
  (aK:GhLe g g') (ab:Kept g w g' w' K) (aa:K (.bt id)) (al:∀i,K (.oc id i)):iV P g' w' id b n es:=by
 obtain ⟨arr,aG,aJ,bo,cd⟩:=h
 obtain ⟨bN,cb,_⟩:=ab b (by rw [aJ];exact aa)
 exact ⟨arr,cb.trans aG,bN.trans aJ,bo.kept aK ab al,cd⟩
theorem x9.kept {w w':World} {b1 since:Nat} {seen:List AV} {eO:List Nat} (h:x9 w b1 since seen eO) (ab:w'.heap[b1]?=w.heap[b1]?):x9 w' b1 since seen eO:=by
 obtain ⟨L,R,aa,al,aY,bn⟩:=h
 exact ⟨L,R,aa,al,aY,fun arr aZ=>bn arr (ab▸aZ)⟩
theorem kY.kept {g g':a5} {w w':World} {K:dh→Prop} {since:Nat} {seen:List AV} {m:Option Nat} {o:Obj} (h:kY g w since seen m o)
  (aK:GhLe g g') (ab:Kept g w g' w' K) (cW:∀a7,m=some a7→K (.bt a7)):kY g' w' since seen m o:=by
 cases m with
 | none =>
  cases o<;>first | exact h | skip
  rename_i mp _ _ _
  cases mp<;>exact h
 | some a7 =>
  cases o<;>try exact h
  rename_i mp s eO last
  cases mp with
  | none=>exact h
  | some b1 =>
   obtain ⟨aG,aJ,bo,cd,dV,arr,n,fY,jY⟩:=h
   obtain ⟨bN,cb,_⟩:=ab b1 (by rw [aJ];exact cW a7 rfl)
   exact ⟨aK.b4 _ _ aG,bN.trans aJ,bo,cd,dV.kept cb,arr,n,cb.trans fY,jY⟩
theorem mY.kept {P:Program} {g g':a5} {w w':World} {K:dh→Prop} {id:Nat} {o:aM} (h:mY P g w id o)
  (aK:GhLe g g') (ab:Kept g w g' w' K) (aa:∀id,K (.bt id)) (al:∀i,K (.oc id i)):mY P g' w' id o:=by
 cases o with
 | cells cs=>obtain ⟨b,aG,aJ⟩:=h;exact ⟨b,aK.b4 _ _ aG,aJ.kept aK ab (aa id) al⟩
 | buf e cs =>
  obtain ⟨b,k,aG,aJ,bo,⟨arr,cd,dV⟩,fY⟩:=h
  obtain ⟨_,_,_,_,aO,_⟩:=bo
  refine ⟨b,k,aK.b4 _ _ aG,aK.b4 _ _ aJ,gB.kept ⟨_,_,‹_›,‹_›,aO,‹_›⟩ aK ab (aa id) al,⟨arr,?_,dV⟩,fY⟩
  exact (ab b (by rw [aO];exact aa id)).2.1.trans cd
 | map n es=>obtain ⟨b,aG,aJ⟩:=h;exact ⟨b,aK.b4 _ _ aG,aJ.kept aK ab (aa id) al⟩
 | iter m since seen =>
  obtain ⟨b,o,aG,aJ,bo,cd⟩:=h
  obtain ⟨bN,cb,_⟩:=ab b (by rw [bo];exact aa id)
  exact ⟨b,o,aK.b4 _ _ aG,cb.trans aJ,bN.trans bo,cd.kept aK ab fun a7 _=>aa a7⟩
 | dead=>trivial
theorem mY.beside {P:Program} {g g':a5} {w w':World} {K:dh→Prop} {id eP b:Nat} {o:aM} (h:mY P g w eP o)
  (aK:GhLe g g') (ab:Kept g w g' w' K) (bG:eP≠id) (ah:g.b4 id=some b) (hm:∀arr n,w.heap[b]?≠some (.map arr n)) (aa:∀i,i≠id→K (.bt i)) (al:∀i,K (.oc eP i)):mY P g' w' eP o:=by
 cases o with
 | cells cs=>obtain ⟨b,aG,aJ⟩:=h;exact ⟨b,aK.b4 _ _ aG,aJ.kept aK ab (aa _ bG) al⟩
 | buf e cs =>
  obtain ⟨b,k,aG,aJ,bo,⟨arr,cd,dV⟩,fY⟩:=h
  obtain ⟨_,_,_,_,aO,_⟩:=bo
  refine ⟨b,k,aK.b4 _ _ aG,aK.b4 _ _ aJ,gB.kept ⟨_,_,‹_›,‹_›,aO,‹_›⟩ aK ab (aa _ bG) al,⟨arr,?_,dV⟩,fY⟩
  exact (ab b (by rw [aO];exact aa _ bG)).2.1.trans cd
 | map n es=>obtain ⟨b,aG,aJ⟩:=h;exact ⟨b,aK.b4 _ _ aG,aJ.kept aK ab (aa _ bG) al⟩
 | iter m since seen =>
  obtain ⟨bE,o,aG,aJ,bo,cd⟩:=h
  obtain ⟨bN,cb,_⟩:=ab bE (by rw [bo];exact aa _ bG)
  refine ⟨bE,o,aK.b4 _ _ aG,cb.trans aJ,bN.trans bo,cd.kept aK ab fun a7 mZ=>aa _ ?_⟩
  rintro rfl
  subst mZ
  cases o<;>simp only [kY] at cd
  rename_i mp _ _ _
  cases mp with
  | none=>exact cd.elim
  | some b1 =>
   obtain ⟨an,_,_,_,_,arr,n,p5,_⟩:=cd
   rw [ah] at an;simp at an;subst an
   exact hm _ _ p5
 | dead=>trivial
theorem Rel.later {P:Program} {gl:aR} {N:Nat} {g g':a5} {s:ae} {a:Act} {w w':World} {K:dh→Prop} (h:Rel P gl N g s a w) (aK:GhLe g g')
  (ab:Kept g w g' w' K) (cW:∀o,o≠.none→K o) (jZ:∀b off v,g'.γ b off=some v→w'.cell? ⟨b,off,none⟩=some v)
  (dx:∀b,g'.bd b≠.none→b<w'.heap.size) (Bx:∀id b,g'.b4 id=some b→id<s.heap.length):Rel P gl N g' s a w' :=
 ⟨h.sorted,h.size,h.defers,fun t e he=>(h.env t e he).kept aK ab (cW _ (by simp)) (cW _ (by simp)) (fun _=>cW _ (by simp)),
  fun id o aE=>(h.heap id o aE).kept aK ab (fun _=>cW _ (by simp)) (fun _=>cW _ (by simp)),jZ,dx,fun n x ai=>(h.e4 n x ai).mono aK.γ,Bx⟩
end AM
/-! Laws of the abstract environment, and what a write of a temporary does to the relation. -/
namespace AM
open Go
namespace Env
def cR (e:Env):Prop:=e.Pairwise fun p q=>p.1<q.1
theorem fm (e:Env) (t:Nat) (x:bU) (u:Nat):(e.ins t x).get u=if u=t then some x else e.get u:=by
 induction e with
 | nil=>simp [ins,get]
 | cons p r ih =>
  obtain ⟨k,y⟩:=p
  simp only [ins]
  split
  ·simp [get]
  ·split
   ·rename_i R aa;subst aa;by_cases h:u=t<;>simp [get,h]
   ·rename_i R aa
    simp only [get,ih]
    by_cases h:u=k
    ·simp [h,show ¬k=t from fun e=>aa e.symm]
    ·simp [h]
theorem LA (e:Env) (t u:Nat):(e.del t).get u=if u=t then none else e.get u:=by
 induction e with
 | nil=>simp [del,get]
 | cons p r ih =>
  obtain ⟨k,y⟩:=p
  simp only [del]
  split
  ·rename_i h;subst h;rw [ih];by_cases h:u=t<;>simp [get,h]
  ·rename_i h
   simp only [get,ih]
   by_cases R:u=k
   ·have:u≠t:=fun e=>h (e▸R)
    simp [R,show ¬k=t from fun e=>h e.symm]
   ·simp [R]
theorem LB {e:Env} {t:Nat} {x:bU} {p:Nat×bU} (h:p∈e.ins t x):p=(t,x)∨p∈e:=by
 induction e with
 | nil=>simp [ins] at h;exact .inl h
 | cons q r ih =>
  obtain ⟨k,y⟩:=q
  simp only [ins] at h
  split at h
  ·simp at h ⊢;rcases h with h | h | h<;>simp [h]
  ·split at h
   ·simp at h ⊢;rcases h with h | h<;>simp [h]
   ·simp at h ⊢;rcases h with h | h
    ·simp [h]
    ·rcases ih h with h | h<;>simp [h]
theorem cR.ins {e:Env} (h:e.cR) (t:Nat) (x:bU):(e.ins t x).cR:=by
 induction e with
 | nil=>simp [Env.ins,cR]
 | cons p r ih =>
  obtain ⟨k,y⟩:=p
  have cC:=List.pairwise_cons.1 h
  simp only [Env.ins]
  split
  ·rename_i bz
   refine List.pairwise_cons.2 ⟨fun q bL=>?_,h⟩
   rcases List.mem_cons.1 bL with rfl | bL
   ·exact bz
   ·exact Nat.lt_trans bz (cC.1 q bL)
  ·split
   ·rename_i R aa;subst aa;exact List.pairwise_cons.2 ⟨cC.1,cC.2⟩
   ·rename_i R aa
    refine List.pairwise_cons.2 ⟨fun q bL=>?_,ih cC.2⟩
    rcases LB bL with rfl | bL
    ·simp only;omega
    ·exact cC.1 q bL
theorem XO {e:Env} {t:Nat} {p:Nat×bU} (h:p∈e.del t):p∈e:=by
 induction e with
 | nil=>simp [del] at h
 | cons q r ih =>
  obtain ⟨k,y⟩:=q
  simp only [del] at h
  split at h
  ·exact List.mem_cons_of_mem _ (ih h)
  ·rcases List.mem_cons.1 h with h | h
   ·simp [h]
   ·exact List.mem_cons_of_mem _ (ih h)
theorem cR.del {e:Env} (h:e.cR) (t:Nat):(e.del t).cR:=by
 induction e with
 | nil=>simp [Env.del,cR]
 | cons p r ih =>
  obtain ⟨k,y⟩:=p
  have cC:=List.pairwise_cons.1 h
  simp only [Env.del]
  split
  ·exact ih cC.2
  ·exact List.pairwise_cons.2 ⟨fun q bL=>cC.1 q (XO bL),ih cC.2⟩
theorem m0 {e:Env} {t:Nat} {x:bU} (h:e.get t=some x):(t,x)∈e:=by
 induction e with
 | nil=>simp [get] at h
 | cons p r ih =>
  obtain ⟨k,y⟩:=p
  simp only [get] at h
  split at h
  ·rename_i R;subst R;simp at h;simp [h]
  ·exact List.mem_cons_of_mem _ (ih h)
theorem get_of_mem {e:Env} (aS:e.cR) {t:Nat} {x:bU} (h:(t,x)∈e):e.get t=some x:=by
 induction e with
 | nil=>simp at h
 | cons p r ih =>
  obtain ⟨k,y⟩:=p
  have cC:=List.pairwise_cons.1 aS
  simp only [get]
  rcases List.mem_cons.1 h with h | h
  ·simp at h;simp [h.1,h.2]
  ·have:=cC.1 _ h
   simp only at this
   simp only [show ¬t=k from by omega,if_false]
   exact ih cC.2 h
theorem yc {e:Env} {bk:List Nat} {p:Nat×bU} (h:p∈e.close bk):p∈e∧∀u off,p.2≠.a u off:=by
 induction e with
 | nil=>simp [close] at h
 | cons q r ih =>
  obtain ⟨k,y⟩:=q
  cases y with
  | a u off =>
   simp only [close] at h
   exact ⟨List.mem_cons_of_mem _ (ih h).1,(ih h).2⟩
  | v x =>
   simp only [close] at h
   split at h
   ·exact ⟨List.mem_cons_of_mem _ (ih h).1,(ih h).2⟩
   ·rcases List.mem_cons.1 h with rfl | h
    ·exact ⟨by simp,fun _ _ h=>by simp at h⟩
    ·exact ⟨List.mem_cons_of_mem _ (ih h).1,(ih h).2⟩
  | b cs =>
   simp only [close] at h
   split at h
   ·exact ⟨List.mem_cons_of_mem _ (ih h).1,(ih h).2⟩
   ·rcases List.mem_cons.1 h with rfl | h
    ·exact ⟨by simp,fun _ _ h=>by simp at h⟩
    ·exact ⟨List.mem_cons_of_mem _ (ih h).1,(ih h).2⟩
theorem cR.close {e:Env} (h:e.cR) (bk:List Nat):(e.close bk).cR:=by
 induction e with
 | nil=>simp [Env.close,cR]
 | cons p r ih =>
  obtain ⟨k,y⟩:=p
  have cC:=List.pairwise_cons.1 h
  cases y with
  | a u off=>exact ih cC.2
  | v x =>
   simp only [Env.close];split
   ·exact ih cC.2
   ·exact List.pairwise_cons.2 ⟨fun q bL=>cC.1 q (yc bL).1,ih cC.2⟩
  | b cs =>
   simp only [Env.close];split
   ·exact ih cC.2
   ·exact List.pairwise_cons.2 ⟨fun q bL=>cC.1 q (yc bL).1,ih cC.2⟩
theorem XP {e:Env} (aS:e.cR) {bk:List Nat} {u:Nat} {x:bU} (h:(e.close bk).get u=some x):e.get u=some x∧∀v off,x≠.a v off :=
 ⟨get_of_mem aS (yc (m0 h)).1,(yc (m0 h)).2⟩
end Env
end AM
/-! What writes of temporaries, boxes and ghosts do to the relation. -/
namespace AM
open Go
def cc (x:AV):Prop:=∀e sz xs,x≠.list (some e) sz xs
theorem cc.aL (x:AV):cc x.aL:=fun e sz xs h=>by cases x<;>simp [AV.aL] at h
theorem cc.none (sz:Nat) (xs:List AV):cc (.list none sz xs):=fun _ _ _ h=>by simp at h
theorem cc.fo {P:Program} {g:a5} {w:World} {o:dh} {x:AV} {v:Value} (h:cc x):dX P g w o x v:=.jX h
theorem aU.aL {g:a5} {x:AV} {v:Value} (h:aU g x v):aU g x.aL v:=by
 cases x<;>try exact h
 rename_i own sz xs
 cases own with
 | none=>exact h
 | some e=>cases h with
  | own _ _ _ _ h=>exact .pure _ _ h
  | pure _ _ h=>cases h
theorem m1 {a:Act} {d:Nat} (aw:d<a.tmps.size) (v:Value) (t:Nat):(a.put (some d) v).tmps[t]?=if t=d then some v else a.tmps[t]?:=by
 simp only [Act.put]
 by_cases h:t=d
 ·subst h;simp [aw]
 ·simp [h,Array.getElem?_setIfInBounds_ne (fun e=>h e.symm)]
structure hX (s:ae) (x:dh):Prop where
 var:∀t y,x=.var t→s.env.get t=some (.v y)→cc y
 lD:∀t i cs c,x=.lD t i→s.env.get t=some (.b cs)→cs[i]?=some c→cc c
 oc:∀(id i:Nat) cs c,x=.oc id i→(s.heap[id]?=some (.cells cs)∨∃e,s.heap[id]?=some (.buf e cs))→cs[i]?=some c→cc c
 XQ:∀(id i:Nat) n es,x=.oc id i→s.heap[id]?=some (.map n es)→∀e∈es,cc e.2
 cV:∀t,x≠.cV t
 bt:∀id,x≠.bt id
theorem hX.none (s:ae):hX s .none:=⟨by simp,by simp,by simp,by simp,by simp,by simp⟩
section
variable {P:Program} {gl:aR} {N:Nat} {g g':a5} {s s':ae} {a:Act} {w w':World}
theorem dX.ri {K:dh→Prop} {o:dh} {x:AV} {v:Value} (h:dX P g w o x v) (aK:GhLe g g') (ab:Kept g w g' w' K) (aE:K o∨cc x):dX P g' w' o x v:=by
 rcases aE with aE | aE
 ·exact h.kept aK ab aE
 ·exact aE.fo
theorem gB.ri {K:dh→Prop} {b:Nat} {o:dh} {oc:Nat→dh} {cs:List AV} (h:gB P g w b o oc cs)
  (aK:GhLe g g') (ab:Kept g w g' w' K) (aE:K o) (Bw:∀i c,cs[i]?=some c→K (oc i)∨cc c):gB P g' w' b o oc cs:=by
 obtain ⟨arr,ty,R,aa,al,aY,bn⟩:=h
 obtain ⟨bN,cb,ds⟩:=ab b (by rw [al];exact aE)
 refine ⟨arr,ty,cb.trans R,aa,bN.trans al,fun off=>(ds off).trans (aY off),fun i c af=>?_⟩
 obtain ⟨v,cw,dr,hL,hM⟩:=bn i c af
 exact ⟨v,cw,dr,hL.mono aK,hM.ri aK ab (Bw i c af)⟩
theorem Rel.step (h:Rel P gl N g s a w) (x:dh) (ai:hX s x) (aK:GhLe g g') (ab:Kept g w g' w' fun o=>o≠.none∧o≠x)
  (jZ:∀b off v,g'.γ b off=some v→w'.cell? ⟨b,off,none⟩=some v)
  (dx:∀b,g'.bd b≠.none→b<w'.heap.size) (Bx:∀id b,g'.b4 id=some b→id<s.heap.length):Rel P gl N g' s a w':=by
 refine ⟨h.sorted,h.size,h.defers,fun t e he=>?_,fun id o aE=>?_,jZ,dx,fun n x ai=>(h.e4 n x ai).mono aK.γ,Bx⟩
 ·have R:=h.env t e he
  cases e with
  | v y =>
   obtain ⟨v,aG,aJ,bo⟩:=R
   refine ⟨v,aG,aJ.mono aK,bo.ri aK ab ?_⟩
   by_cases kZ:x=.var t
   ·exact .inr (ai.var t y kZ he)
   ·exact .inl ⟨by simp,fun e=>kZ e.symm⟩
  | b cs =>
   obtain ⟨b,aG,aJ⟩:=R
   refine ⟨b,aG,aJ.ri aK ab ⟨by simp,fun e=>ai.cV t e.symm⟩ fun i c af=>?_⟩
   by_cases kZ:x=.lD t i
   ·exact .inr (ai.lD t i cs c kZ he af)
   ·exact .inl ⟨by simp,fun e=>kZ e.symm⟩
  | a u off=>exact R
 ·have R:=h.heap id o aE
  cases o with
  | cells cs =>
   obtain ⟨b,aG,aJ⟩:=R
   refine ⟨b,aK.b4 _ _ aG,aJ.ri aK ab ⟨by simp,fun e=>ai.bt id e.symm⟩ fun i c af=>?_⟩
   by_cases kZ:x=.oc id i
   ·exact .inr (ai.oc id i cs c kZ (.inl aE) af)
   ·exact .inl ⟨by simp,fun e=>kZ e.symm⟩
  | buf e cs =>
   obtain ⟨b,k,aG,aJ,bo,⟨arr,cd,dV⟩,fY⟩:=R
   have aO:g.bd b=.bt id:=bo.choose_spec.choose_spec.2.2.1
   refine ⟨b,k,aK.b4 _ _ aG,aK.b4 _ _ aJ,bo.ri aK ab ⟨by simp,fun e=>ai.bt id e.symm⟩ fun i c af=>?_,⟨arr,?_,dV⟩,fY⟩
   ·by_cases kZ:x=.oc id i
    ·exact .inr (ai.oc id i cs c kZ (.inr ⟨e,aE⟩) af)
    ·exact .inl ⟨by simp,fun e=>kZ e.symm⟩
   ·exact (ab b (by rw [aO];exact ⟨by simp,fun e=>ai.bt id e.symm⟩)).2.1.trans cd
  | map n es =>
   obtain ⟨b,aG,arr,aJ,bo,⟨b9,bf,bu,b5⟩,dV⟩:=R
   obtain ⟨bN,cb,_⟩:=ab b (by rw [bo];exact ⟨by simp,fun e=>ai.bt id e.symm⟩)
   refine ⟨b,aK.b4 _ _ aG,arr,cb.trans aJ,bN.trans bo,⟨b9,bf,bu,fun i e m he hm=>?_⟩,dV⟩
   obtain ⟨an,ar,aO,bD⟩:=b5 i e m he hm
   refine ⟨an.mono aK,ar,aO.mono aK,bD.ri aK ab ?_⟩
   by_cases kZ:x=.oc id m.born
   ·exact .inr (ai.XQ id m.born n es kZ aE e (bf.mem_iff.1 (List.mem_of_getElem? he)))
   ·exact .inl ⟨by simp,fun e=>kZ e.symm⟩
  | iter m since seen =>
   obtain ⟨b,o,aG,aJ,bo,cd⟩:=R
   obtain ⟨bN,cb,_⟩:=ab b (by rw [bo];exact ⟨by simp,fun e=>ai.bt id e.symm⟩)
   exact ⟨b,o,aK.b4 _ _ aG,cb.trans aJ,bN.trans bo,cd.kept aK ab fun a7 _=>⟨by simp,fun e=>ai.bt a7 e.symm⟩⟩
  | dead=>trivial
theorem rj {env:Env} {d u:Nat} {cs:List AV} (h:c9 env d=true) (hu:env.get u=some (.b cs)):u≠d:=by
 rintro rfl;simp [c9,hu] at h
theorem rf.other {env LC:Env} {d:Nat} {v:Value} {t:Nat} {e:bU} (aS:d<a.tmps.size) (aF:t≠d) (h:rf P g env a w t e)
  (ah:∀u cs,env.get u=some (.b cs)→(∃off,e=.a u off)→u≠d∧LC.get u=some (.b cs)):rf P g LC (a.put (some d) v) w t e:=by
 cases e with
 | v x=>obtain ⟨u,aG,aJ,bo⟩:=h;exact ⟨u,by rw [m1 aS];simp [aF,aG],aJ,bo⟩
 | b cs=>obtain ⟨b,aG,aJ⟩:=h;exact ⟨b,by rw [m1 aS];simp [aF,aG],aJ⟩
 | a u off =>
  obtain ⟨⟨cs,hu⟩,b,aG,aJ⟩:=h
  obtain ⟨R,aa⟩:=ah u cs hu ⟨off,rfl⟩
  exact ⟨⟨cs,aa⟩,b,by rw [m1 aS];simp [aF,aG],by rw [m1 aS];simp [R,aJ]⟩
theorem Rel.put (h:Rel P gl N g s a w) {d:Nat} {x:AV} {v:Value} (ao:s.put d x=some s') (aw:d<N) (ax:aU g x v) (aE:dX P g w (.var d) x v) :
  Rel P gl N g s' (a.put (some d) v) w:=by
 have aS:d<a.tmps.size:=by rw [h.size];exact aw
 unfold ae.put at ao
 split at ao
 ·rename_i cq
  simp at ao;subst ao
  refine ⟨Env.cR.ins h.sorted d _,by simp [Act.put,h.size],h.defers,fun t e he=>?_,h.heap,h.dY,h.own,h.e4,h.er⟩
  rw [Env.fm] at he
  split at he
  ·rename_i aF;subst aF;simp at he;subst he
   exact ⟨v,by rw [m1 aS];simp,ax,aE⟩
  ·rename_i aF
   exact (h.env t e he).other aS aF fun u cs hu _=>⟨rj cq hu,by rw [Env.fm];simp [rj cq hu,hu]⟩
 ·cases ao
theorem Rel.XR (h:Rel P gl N g s a w) {d u off b:Nat} {cs:List AV} (cq:c9 s.env d=true) (aw:d<N) (hu:s.env.get u=some (.b cs))
  (ah:a.tmps[u]?=some (ptrTo b 0)):Rel P gl N g { s with env:=s.env.ins d (.a u off) } (a.put (some d) (ptrTo b off)) w:=by
 have aS:d<a.tmps.size:=by rw [h.size];exact aw
 refine ⟨Env.cR.ins h.sorted d _,by simp [Act.put,h.size],h.defers,fun t e he=>?_,h.heap,h.dY,h.own,h.e4,h.er⟩
 simp only at he ⊢
 rw [Env.fm] at he
 have vk:=rj cq hu
 split at he
 ·rename_i aF;subst aF;simp at he;subst he
  exact ⟨⟨cs,by rw [Env.fm];simp [vk,hu]⟩,b,by rw [m1 aS];simp,by rw [m1 aS];simp [vk,ah]⟩
 ·rename_i aF
  exact (h.env t e he).other aS aF fun u cs hu _=>⟨rj cq hu,by rw [Env.fm];simp [rj cq hu,hu]⟩
theorem XS {env:Env} {d u off:Nat} (h:hV env d=false) (hu:env.get u=some (.a d off)):False:=by
 unfold hV at h
 rw [List.any_eq_false] at h
 have:=h _ (Env.m0 hu)
 simp at this
theorem Rel.hW (h:Rel P gl N g s a w) {d b:Nat} {cs:List AV} (ao:s.hW d cs=some s') (aw:d<N) (ah:gB P g w b (.cV d) (.lD d) cs) :
  Rel P gl N g s' (a.put (some d) (ptrTo b 0)) w:=by
 have aS:d<a.tmps.size:=by rw [h.size];exact aw
 unfold ae.hW at ao
 split at ao
 ·cases ao
 rename_i dk
 simp only [Bool.or_eq_true,not_or,Bool.not_eq_true] at dk
 obtain ⟨dk,_⟩:=dk
 simp only [Option.some.injEq] at ao
 subst ao
 refine ⟨Env.cR.ins h.sorted d _,by simp [Act.put,h.size],h.defers,fun t e he=>?_,h.heap,h.dY,h.own,h.e4,h.er⟩
 simp only at he ⊢
 rw [Env.fm] at he
 split at he
 ·rename_i aF;subst aF;simp at he;subst he
  exact ⟨b,by rw [m1 aS];simp,ah⟩
 ·rename_i aF
  refine (h.env t e he).other aS aF fun u cs hu ⟨off,ks⟩=>?_
  have ck:u≠d:=fun e=>XS dk (by rw [he,ks,e])
  exact ⟨ck,by rw [Env.fm];simp [ck,hu]⟩
theorem Rel.forget (h:Rel P gl N g s a w) {d:Nat} {v:Value} (cq:c9 s.env d=true) (aw:d<N) :
  Rel P gl N g { s with env:=s.env.del d } (a.put (some d) v) w:=by
 have aS:d<a.tmps.size:=by rw [h.size];exact aw
 refine ⟨Env.cR.del h.sorted d,by simp [Act.put,h.size],h.defers,fun t e he=>?_,h.heap,h.dY,h.own,h.e4,h.er⟩
 simp only at he ⊢
 rw [Env.LA] at he
 split at he
 ·cases he
 ·rename_i aF
  exact (h.env t e he).other aS aF fun u cs hu _=>⟨rj cq hu,by rw [Env.LA];simp [rj cq hu,hu]⟩
theorem Rel.close (h:Rel P gl N g s a w) (bk:List Nat):Rel P gl N g { s with env:=s.env.close bk } a w:=by
 refine ⟨Env.cR.close h.sorted bk,h.size,h.defers,fun t e he=>?_,h.heap,h.dY,h.own,h.e4,h.er⟩
 obtain ⟨R,aa⟩:=Env.XP h.sorted he
 have:=h.env t e R
 cases e with
 | v x=>exact this
 | b cs=>exact this
 | a u off=>exact absurd rfl (aa u off)
theorem Rel.strip (h:Rel P gl N g s a w) {x e sz:Nat} {xs:List AV} (ai:s.env.get x=some (.v (.list (some e) sz xs))) :
  s.put x (.list none sz xs)=some { s with env:=s.env.ins x (.v (.list none sz xs)) }∧Rel P gl N g { s with env:=s.env.ins x (.v (.list none sz xs)) } a w:=by
 refine ⟨by simp [ae.put,c9,ai],Env.cR.ins h.sorted x _,h.size,h.defers,fun t y he=>?_,h.heap,h.dY,h.own,h.e4,h.er⟩
 simp only at he ⊢
 rw [Env.fm] at he
 split at he
 ·rename_i aF;subst aF;simp at he;subst he
  obtain ⟨v,aG,aJ,bo⟩:=h.env t _ ai
  exact ⟨v,aG,aJ.aL,cc.fo (cc.none _ _)⟩
 ·rename_i aF
  have R:=h.env t y he
  cases y with
  | v y=>exact R
  | b cs=>exact R
  | a u off =>
   obtain ⟨⟨cs,hu⟩,p⟩:=R
   refine ⟨⟨cs,?_⟩,p⟩
   rw [Env.fm]
   have:u≠x:=by rintro rfl;rw [ai] at hu;simp at hu
   simp [this,hu]
end
end AM
