/- An abstract machine, and what of the given program it does, part 1. Conditions: none. -/
import Derived.Test.YtmmplkgkkkjojaaGreatDoorQ
import Derived.Orders
import Derived.Laws.AppendOwn
import Derived.Laws.StructEq
import Derived.Laws.Concat
import Derived.Laws.Cells
set_option linter.unusedSimpArgs false
set_option linter.unusedVariables false
namespace AM
open Bool renaming and_eq_true -> aKB
open List renaming pairwise_cons -> aKC,map_cons -> aKD,map_nil -> aKE,getElem?_cons_zero -> aKF,getElem?_toArray -> aKH
open Option renaming isSome_iff_exists -> aKG
open Go
def M:Nat:=1099511627776
inductive AV where
 |bool (b:Bool)|int (k:IntKind) (n:Int)|str (s:List UInt8)|fl|ptr (id off:Nat)|cL (cs:List AV)|list (own:Option Nat) (sz:Nat) (xs:List AV)|map (id:Nat)|ha|fn (f:Nat) (hb:List AV)|k4|k5|aS (sz:Nat)|lU (sz:Nat)|hK (sz:Nat)|bI (id off n sz:Nat)|agg (cs:List AV)|bg (vs:List AV)
 deriving Inhabited
namespace AV
def cells:AV->List AV
 |.agg cs=>cs|v=>[v]
def a1:AV->AV
 |.list _ sz xs=>.list none sz xs|v=>v
def ju:AV->Option (Nat×List AV)
 |.list _ sz xs=>some (sz,xs)|.aS sz=>some (sz,[])|.hK sz=>some (sz,[])|_=>none
def vx:Bool->AV->Option (Nat×List AV)
 |true,.str b=>some (1,b.map λc=>.int .u8 c.toNat)|true,_=>none|false,v=>v.ju
def eH:AV->Bool
 |.bool _|.int _ _|.str _|.fl|.ha|.k4|.k5|.aS _|.hK _|.cL _=>true|.list none _ _=>true|_=>false
def pure:AV->Bool
 |.agg cs=>cs.all eH|v=>v.eH
def one:AV->Bool
 |.agg _|.bg _=>false|_=>true
end AV
inductive dc where
 |v (x:AV)|b (cs:List AV)|a (t off:Nat)
 deriving Inhabited
inductive ay where
 |cells (cs:List AV)|buf (e:Nat) (cs:List AV)|map (n:Nat) (es:List (AV×AV))|iter (m:Option Nat) (since:Nat) (seen:List AV)|dead
 deriving Inhabited
abbrev Env:=List (Nat×dc)
structure au where
 env:Env
 heap:List ay
namespace Env
def get:Env->Nat->Option dc
 |[],_=>none|(k,e)::r,t=>if t=k then some e else get r t
def ins:Env->Nat->dc->Env
 |[],t,e=>[(t,e)]|(k,cB)::r,t,e=>if t<k then(t,e)::(k,cB)::r else if t=k then(t,e)::r else(k,cB)::ins r t e
def del:Env->Nat->Env
 |[],_=>[]|(k,e)::r,t=>if t=k then del r t else(k,e)::del r t
def LN:Env->Nat->Env
 |[],_=>[]|(k,.a u off)::r,t=>if u=t then LN r t else(k,.a u off)::LN r t|(k,e)::r,t=>(k,e)::LN r t
def close:Env->List Nat->Env
 |[],_=>[]|(_,.a _ _)::r,bE=>close r bE|(k,e)::r,bE=>if bE.contains k then close r bE else(k,e)::close r bE
end Env
inductive aL where
 |t (n:Nat)|c (x:AV)|f (n:Nat)|g (n:Nat)
 deriving Inhabited
inductive cW where
 |hV (d:Nat) (x:aL)|p9 (d x:Nat)|sZ (d e sz:Nat)|pick (d:Nat) (c a b:aL)|bin (d m:Nat) (op:BinOp) (x y:aL)|ur (d:Nat) (ne:Bool) (ks:List Nat) (x y:aL)|qa (d:Nat) (x:aL)|neg (d:Nat) (x:aL)|conv (d:Nat) (k:IntKind) (x:aL)
 |ext (d x i:Nat)|len (d m:Nat) (x:aL)|alloc (d:Nat) (z:List AV)|box (d:Nat) (x:aL)|kc (d:Nat) (z:List AV)|s0 (d:Nat) (x:aL)|s3 (d:Nat) (x:aL)|build (d:Nat) (z:List AV) (parts:List (Nat×Nat×aL))|lit (d sz:Nat) (xs:List aL)|fz (d:Nat) (x:aL) (off:Nat)|lV (d sz:Nat) (x i:aL)|oJ (d:Nat) (x:aL) (n sz:Nat) (i:aL)|ld (d:Nat) (x:aL) (n:Nat) (nB:Bool)|je (d:Nat) (x:aL) (e sz:Nat)|st (n:Nat) (x v:aL)|ir (x:aL) (v:Nat)|idx (d:Nat) (x i:aL)|qb (d sz:Nat) (x:aL) (bc al:Option aL)|q4 (d:Nat) (x:aL) (n sz:Nat) (bc al:Option aL)|app (d s:Nat) (x:aL) (e sz:Nat)|hL (d:Nat) (x:aL)|pq (d f:Nat) (hb:List aL)|r3 (d:Nat) (c:aL) (e sz:Nat)|vy (d e:Nat) (z:List AV)|r4 (d:Nat) (x:aL) (e sz:Nat)|r5 (d:Nat) (k6:Bool) (x y:aL)|vz (d:Nat)|look (ks:List Nat) (d:Nat) (m k:aL) (zero:AV) (ok:Bool)|iN (ks:List Nat) (d:Nat) (m k:aL) (zero:AV)|qc (ks:List Nat) (m k v:aL)|q5 (ks:List Nat) (m k:aL) (v:Nat)|qd (ks:List Nat) (d:Option Nat) (m k:aL)|r6 (d:Nat) (m:aL)|nU (d:Nat) (it:aL)|oK (d:Nat) (it:aL)|s4 (d e sz:Nat) (xs:List aL)|nV (d e sz:Nat) (xs:List aL)|s5 (d e:Nat) (z:List AV) (x:aL)|r7 (d e sz:Nat) (sb:Bool) (u x:aL)|r8 (d:Nat) (ne:Bool) (x:aL)|s6 (d:Nat) (x:aL)|s7 (d e:Nat) (x n:aL)|s8 (d f:Nat) (x:aL)|uu (d f:Nat) (x y:aL)|s9 (e:Nat) (z:List AV) (x:aL)|lW (b:Bool) (n:Nat) (x v:aL)|on (m:Nat) (o:cW)|bad (d:Option Nat)|mC (d:Option Nat) (f:Nat) (xs:List aL)|lX (d:Option Nat) (f u:Nat) (xs:List aL)|eP (d:Option Nat) (f:Nat) (xs:List aL)|iu (d:Option Nat) (f:Nat) (xs:List aL)|lY (d:Option Nat) (x:aL) (xs:List aL)
 deriving Inhabited
structure bq where
 g:Option (Nat×Bool)
 o:cW
inductive az where
 |skip|aa (dp:List bq) (aNI:List Nat)|seq (a b:az)|cond (c:aL) (a b:az)|block (id:Nat) (c:az)|loop (c:az)|exit (id:Nat)|ret
 /-- ghost: the list or string in t is no longer than M -/
 |Ht (t:Nat) (c:az)
 /-- ghost: forget temporaries -/
 |drop (bE:List Nat) (c:az)
 /-- ghost: the heap slice in t becomes immutable -/
 |q6 (t e sz:Nat) (c:az)|ta (t off e sz:Nat) (c:az)
 /-- ghost: the object at t is not used any more -/
 |kill (t:Nat) (c:az)
 /-- code that is not reached -/
 |bad
inductive k7 where
 |normal|exit (id:Nat)|ret
abbrev cQ:=Nat->Option AV
section
variable (gl:cQ)
def br(env:Env):aL->Option AV
 |.t n=>match Env.get env n with|some (.v x)=>some x|_=>none
 |.c x=>some x|.f n=>some (.fn n [])|.g n=>gl n
def e8(env:Env):List aL->Option (List AV)
 |[]=>some []|x::r=>match br gl env x,e8 env r with|some v,some vs=>some (v::vs)|_,_=>none
def e9(env:Env)(d:Nat):Bool:=match Env.get env d with|some (.b _)=>false|some (.a _ _)=>false|_=>true
def mD(env:Env)(d:Nat):Bool:=env.any λp=>match p.2 with|.a u _=>u==d|_=>false
def hc(env:Env)(d:Nat):Bool:=match Env.get env d with|some (.a _ _)=>true|_=>false
def au.put(s:au)(d:Nat)(x:AV):Option au:=if e9 s.env d then some { s with env:=s.env.ins d (.v x) }else none
def au.lZ(s:au)(d:Nat)(cs:List AV):Option au:=if mD s.env d||hc s.env d then none else some { s with env:=s.env.ins d (.b cs) }
def au.fO(s:au)(d:Option Nat)(x:AV):Option au:=match d with|some d=>s.put d x|none=>some s
inductive l0 where
 |eK (t off:Nat)|ar (id off:Nat)|jV (cs:List AV)
def eQ(env:Env):aL->Option l0
 |.t n=>match Env.get env n with
  |some (.b _)=>some (.eK n 0)|some (.a t off)=>some (.eK t off)|some (.v (.ptr id off))=>some (.ar id off)|some (.v (.cL cs))=>some (.jV cs)|_=>none
 |.g n=>match gl n with|some (.cL cs)=>some (.jV cs)|_=>none
 |_=>none
def bd(s:au)(n:Nat):l0->Option (List AV)
 |.eK t off=>match Env.get s.env t with
  |some (.b cs)=>if off+n<=cs.length then some ((cs.drop off).take n)else none|_=>none
 |.ar id off=>match s.heap[id]? with
  |some (.cells cs)=>if off+n<=cs.length then some ((cs.drop off).take n)else none|some (.buf _ cs)=>if off+n<=cs.length then some ((cs.drop off).take n)else none|_=>none
 |.jV cs=>if n<=cs.length then some (cs.take n)else none
def setCells:List AV->Nat->List AV->List AV
 |cs,_,[]=>cs|cs,off,v::r=>setCells (cs.set off v) (off+1) r
def bb(s:au)(vs:List AV):l0->Option au
 |.eK t off=>match Env.get s.env t with
  |some (.b cs)=>if off+vs.length<=cs.length then some { s with env:=s.env.ins t (.b (setCells cs off vs)) }else none|_=>none
 |.ar id off=>match s.heap[id]? with
  |some (.cells cs)=>if off+vs.length<=cs.length then some { s with heap:=s.heap.set id (.cells (setCells cs off vs)) }else none|some (.buf e cs)=>if off+vs.length<=cs.length then some { s with heap:=s.heap.set id (.buf e (setCells cs off vs)) }else none|_=>none
 |.jV _=>none
def Ur(op:BinOp)(k:IntKind)(a b:Int):Int:=match op with
 |.and=>k.wrap (BitVec.ofInt k.bits a&&& BitVec.ofInt k.bits b).toNat|_=>k.wrap (BitVec.ofInt k.bits a ^^^ BitVec.ofInt k.bits b).toNat
def Bl(op:BinOp)(k:IntKind)(a b:Int):Option AV :=
 if 0<=b then some (.int k (match op with|.shl=>k.wrap (a*2 ^ min b.toNat k.bits)|_=>a / 2 ^ min b.toNat k.bits))else none
def Hu(op:BinOp)(k:IntKind)(a b:Int):Option AV :=
 match op with
 |.add=>some (.int k (k.wrap (a+b)))|.sub=>some (.int k (k.wrap (a-b)))|.mul=>some (.int k (k.wrap (a*b)))|.quo=>if b=0 then none else some (.int k (k.wrap (a.tdiv b)))|.rem=>if b=0 then none else some (.int k (a.tmod b))|.eql=>some (.bool (a==b))|.neq=>some (.bool (a != b))|.lss=>some (.bool (decide (a<b)))|.leq=>some (.bool (decide (a<=b)))|.gtr=>some (.bool (decide (a>b)))|.geq=>some (.bool (decide (a>=b)))|.shr=>Bl .shr k a b|.shl=>Bl .shl k a b|.and=>some (.int k (Ur .and k a b))|.xor=>some (.int k (Ur .xor k a b))|_=>none
def Hv(op:BinOp)(a b:List UInt8):Option AV :=
 match op with
 |.add=>if a.length+b.length<=M then some (.str (a++b))else none|.eql=>some (.bool (a==b))|.neq=>some (.bool (!(a==b)))|.lss=>some (.bool (Op.bytesLess a b))|.leq=>some (.bool (Op.bytesLess a b||a==b))|.gtr=>some (.bool (!(Op.bytesLess a b||a==b)))|.geq=>some (.bool (!(Op.bytesLess a b)))|_=>none
def q7:AV->AV->Option Bool
 |.bool a,.bool b=>some (a==b)|.int k a,.int k' b=>if k=k' then some (a==b)else none|.str a,.str b=>some (a==b)|_,_=>none
def eqs:List AV->List AV->Option Bool
 |[],[]=>some true|x::r,y::r'=>match q7 x y,eqs r r' with|some a,some b=>some (a&&b)|_,_=>none
 |_,_=>none
def nW:AV->Nat
 |.int _ _=>0|.str _=>1|.bool _=>2|_=>3
def vA:List Nat->List AV->List AV->Option Bool
 |[],[],[]=>some true|k::ks,x::r,y::r'=>if nW x=k then(match q7 x y,vA ks r r' with|some a,some b=>some (a&&b)|_,_=>none)else none|_,_,_=>none
def Hw(m:Nat)(op:BinOp):AV->AV->Option AV
 |.int k a,.int k' b=>if m=0/\(k=k'\/op=.shl\/op=.shr)then Hu op k a b else none|.str a,.str b=>if m=0 then Hv op a b else none|.bool a,.bool b=>if m=3 then(match op with|.eql=>some (.bool (a==b))|.neq=>some (.bool (!(a==b)))|_=>none)else none|.fl,.fl=>if m=2 then(match op with|.eql=>some (.bool true)|.neq=>some (.bool false)|_=>none)else none|.fl,.ptr _ _=>if m=2 then(match op with|.eql=>some (.bool false)|.neq=>some (.bool true)|_=>none)else none|.ptr a o,.ptr cN dA=>if m=4/\a=cN/\o=dA then(match op with|.eql=>some (.bool true)|.neq=>some (.bool false)|_=>none)else none|.ptr _ _,.fl=>if m=2 then(match op with|.eql=>some (.bool false)|.neq=>some (.bool true)|_=>none)else none|_,_=>none
def oL(env:Env):List AV->List (Nat×Nat×aL)->Option (List AV)
 |z,[]=>some z|z,(off,n,x)::r=>match br gl env x with
  |some v=>if v.cells.length=n/\off+n<=z.length/\v.cells.all AV.one then oL env (setCells z off (v.cells.map AV.a1)) r else none|none=>none
def h9(env:Env)(Hi:Nat):Option aL->Option Int
 |none=>some Hi|some x=>match br gl env x with|some (.int _ n)=>some n|_=>none
def chunk(sz:Nat):Nat->List AV->List AV
 |0,_=>[]|n+1,cs=>(if sz=1 then(cs.headD default)else .agg (cs.take sz))::chunk sz n (cs.drop sz)
def ia:AV->Bool
 |.str _=>true|.int _ _=>true|.agg cs=>cs.all λ|.str _|.int _ _|.bool _=>true|_=>false
 |_=>false
def fE(ks:List Nat):AV->Bool
 |.str _=>ks==[1]|.agg cs=>ks.length != 1&&ks.all (λk=>k==1||k==2)&&cs.map nW==ks|_=>false
def lr(ks:List Nat):List (AV×AV)->Bool
 |[]=>true|(k,_)::_=>fE ks k
def dS:AV->AV->Bool
 |.str a,.str b=>a==b|.int k a,.int k' b=>k==k'&&a==b|.agg a,.agg b=>eqs a b==some true|_,_=>false
def Us:AV->AV->Bool
 |.str a,.str b=>Op.bytesLess a b|.int _ a,.int _ b=>decide (a<b)|.bool a,.bool b=>!a&&b|_,_=>false
def Ut:List AV->List AV->Bool
 |x::r,y::r'=>Us x y||(q7 x y==some true&&Ut r r')|_,_=>false
def LO:AV->AV->Bool
 |.agg a,.agg b=>Ut a b|x,y=>Us x y
def hl:List (AV×AV)->AV->Option AV
 |[],_=>none|(k,v)::r,x=>if dS x k then some v else hl r x
def jv:List (AV×AV)->AV->AV->List (AV×AV)
 |[],_,_=>[]|(k,u)::r,x,v=>if dS x k then(k,v)::r else(k,u)::jv r x v
def uv:List (AV×AV)->AV->AV->List (AV×AV)
 |[],x,v=>[(x,v)]|(k,u)::r,x,v=>if LO x k then(x,v)::(k,u)::r else(k,u)::uv r x v
def vB:List (AV×AV)->AV->List (AV×AV)
 |[],_=>[]|(k,u)::r,x=>if dS x k then r else(k,u)::vB r x
def pr(n:Nat)(es:List (AV×AV))(k v:AV):ay:=match hl es k with|some _=>.map n (jv es k v)|none=>.map (n+1) (uv es k v)
def bytesOf:List AV->Option (List UInt8)
 |[]=>some []|.int .u8 n::r=>if 0<=n/\n<256 then(bytesOf r).map (UInt8.ofNat n.toNat::·)else none|_=>none
def du:List UInt8->List UInt8->Int
 |[],[]=>0|[],_::_=>-1|_::_,[]=>1|a::r,b::t=>if a=b then du r t else if a<b then -1 else 1
def eV(env:Env):aL->Nat
 |.t n=>match Env.get env n with|some (.b _)=>1|some (.a _ _)=>2|some (.v (.cL _))=>3|some (.v (.ptr _ _))=>4|_=>0
 |.g _=>3|_=>0
def gk:cW->aL
 |.fz _ x _|.ld _ x _ _|.je _ x _ _|.st _ x _|.ir x _|.hL _ x=>x|_=>.c .fl
def r9(H:List ay):AV->Option (Nat×Option Nat×Nat×List AV×List (AV×AV))
 |.ptr id 0=>match H[id]? with
  |some (.iter none since seen)=>some (id,none,since,seen,[])|some (.iter (some mid) since seen)=>match H[mid]? with
   |some (.map n es)=>if n=since then some (id,some mid,since,seen,es.filter λe=>!seen.any (dS e.1))else none|_=>none
  |_=>none
 |_=>none
def qe(b:Bool)(n:Nat)(H:List ay):Option AV->Option AV->Option (List ay)
 |some (.ptr id off),some u=>match H[id]? with
  |some (.cells cs)=>if b=false/\u.cells.length=n/\u.cells.all AV.one=true/\off+n<=cs.length then some (H.set id (.cells (setCells cs off (u.cells.map AV.a1))))else none|some (.buf e cs)=>if b=true/\u.cells.length=n/\u.cells.all AV.one=true/\off+n<=cs.length then some (H.set id (.buf e (setCells cs off (u.cells.map AV.a1))))else none|_=>none
 |_,_=>none
def aJ(s:au):cW->Option au
 |.hV d x=>(br gl s.env x).bind λv=>s.put d v.a1|.p9 d x=>match Env.get s.env x with
  |some (.v (.list (some e) sz xs))=>if d=x then none else(s.put x (.list none sz xs)).bind λs=>s.put d (.list (some e) sz xs)|some (.v v)=>s.put d v.a1|_=>none
 |.sZ d e sz=>s.put d (.list (some e) sz [])|.pick d c a b=>match br gl s.env c with
  |some (.bool t)=>if t=true then(br gl s.env a).bind λv=>s.put d v.a1 else(br gl s.env b).bind λv=>s.put d v.a1|_=>none
 |.bin d m op x y=>match br gl s.env x,br gl s.env y with
  |some a,some b=>(Hw m op a b).bind λv=>s.put d v|_,_=>none
 |.ur d ne ks x y=>match br gl s.env x,br gl s.env y with
  |some (.agg a),some (.agg b)=>(vA ks a b).bind λr=>s.put d (.bool (if ne=true then !r else r))|_,_=>none
 |.qa d x=>match br gl s.env x with|some (.bool b)=>s.put d (.bool (!b))|_=>none
 |.neg d x=>match br gl s.env x with|some (.int k n)=>s.put d (.int k (k.wrap (0-n)))|_=>none
 |.conv d k x=>match br gl s.env x with|some (.int _ n)=>s.put d (.int k (k.wrap n))|_=>none
 |.ext d x i=>match Env.get s.env x with|some (.v (.bg vs))=>(vs[i]?).bind λv=>s.put d v.a1|_=>none
 |.len d m x=>match br gl s.env x with
  |some (.list _ _ xs)=>if m=1 then s.put d (.int .i64 xs.length)else none|some (.str b)=>if m=0 then s.put d (.int .i64 b.length)else none|some .ha=>if m=2 then s.put d (.int .i64 0)else none|some (.aS _)=>if m=1 then s.put d (.int .i64 0)else none|some (.hK _)=>if m=1 then s.put d (.int .i64 0)else none|some (.bI _ _ n _)=>if m=1 then s.put d (.int .i64 n)else none|some (.map id)=>if m=2 then(match s.heap[id]? with|some (.map _ es)=>s.put d (.int .i64 es.length)|_=>none)else none|_=>none
 |.alloc d z=>s.lZ d z|.box d x=>(br gl s.env x).bind λv=>if v.cells.all AV.one then s.lZ d (v.cells.map AV.a1)else none|.kc d z=>({ s with heap:=s.heap++[ay.cells z] }).put d (.ptr s.heap.length 0)|.s0 d x=>(br gl s.env x).bind λv=>if v.cells.all AV.one then({ s with heap:=s.heap++[ay.cells (v.cells.map AV.a1)] }).put d (.ptr s.heap.length 0)else none|.s3 d x=>(br gl s.env x).bind λv=>if v.cells.all AV.eH then s.put d (.cL v.cells)else none|.build d z parts=>(oL gl s.env z parts).bind λcs=>s.put d (.agg cs)|.lit d sz xs=>(e8 gl s.env xs).bind λvs =>
   if vs.all (λv=>v.a1.pure&&v.cells.length==sz)&&decide (vs.length<=1000)then s.put d (.list none sz (vs.map AV.a1))else none
 |.fz d x off=>match eQ gl s.env x with
  |some (.eK t o)=>if e9 s.env d then some { s with env:=s.env.ins d (.a t (o+off)) }else none|some (.ar id o)=>s.put d (.ptr id (o+off))|some (.jV cs)=>if off<=cs.length then s.put d (.cL (cs.drop off))else none|none=>none
 |.lV d sz x i=>match br gl s.env x,br gl s.env i with
  |some (.list _ dW xs),some (.int _ n)=>if dW=sz/\0<=n/\n<xs.length then(xs[n.toNat]?).bind λv=>s.put d (.cL v.cells)else none|some (.bI id off m dW),some (.int _ n)=>if dW=sz/\0<=n/\n<m then s.put d (.ptr id (off+n.toNat*sz))else none|_,_=>none
 |.oJ d x n sz i=>match eQ gl s.env x,br gl s.env i with
  |some (.eK t o),some (.int _ k)=>if 0<=k/\k<n/\e9 s.env d=true then some { s with env:=s.env.ins d (.a t (o+k.toNat*sz)) }else none|some (.ar id o),some (.int _ k)=>if 0<=k/\k<n then s.put d (.ptr id (o+k.toNat*sz))else none|some (.jV cs),some (.int _ k)=>if 0<=k/\k<n/\n*sz<=cs.length then s.put d (.cL (cs.drop (k.toNat*sz)))else none|_,_=>none
 |.ld d x n nB=>(eQ gl s.env x).bind λp=>(bd s n p).bind λcs =>
   if nB=true then s.put d (.agg (cs.map AV.a1))else match cs with|[v]=>s.put d v.a1|_=>none
 |.je d x e sz=>(eQ gl s.env x).bind λp=>(bd s 1 p).bind λcs=>match cs with
   |[.list (some e) sz xs]=>(bb s [.list none sz xs] p).bind λs=>s.put d (.list (some e) sz xs)|[.aS _]=>s.put d (.list (some e) sz [])|_=>none
 |.st n x v=>(eQ gl s.env x).bind λp=>(br gl s.env v).bind λv=>if v.cells.length=n/\v.cells.all AV.one then bb s (v.cells.map AV.a1) p else none|.ir x v=>(eQ gl s.env x).bind λp=>match Env.get s.env v with
   |some (.v (.list (some e) sz xs))=>(s.put v (.list none sz xs)).bind λs=>bb s [.list (some e) sz xs] p|_=>none
 |.idx d x i=>match br gl s.env x,br gl s.env i with
  |some (.str b),some (.int _ n)=>if 0<=n then(b[n.toNat]?).bind λc=>s.put d (.int .u8 c.toNat)else none|_,_=>none
 |.qb d jW x bc al=>match br gl s.env x with
  |some (.str b)=>match h9 gl s.env 0 bc,h9 gl s.env b.length al with
   |some l,some h=>if jW=0/\0<=l/\l<=h/\h<=b.length then s.put d (.str ((b.take h.toNat).drop l.toNat))else none|_,_=>none
  |some (.list _ sz xs)=>match h9 gl s.env 0 bc,h9 gl s.env xs.length al with
   |some l,some h=>if jW=sz/\sz≠0/\0<=l/\l<=h/\h<=xs.length then s.put d (.list none sz ((xs.take h.toNat).drop l.toNat))else none|_,_=>none
  |some (.aS sz)=>match h9 gl s.env 0 bc,h9 gl s.env 0 al with
   |some l,some h=>if jW=sz/\sz≠0/\l=0/\h=0 then s.put d (.aS sz)else none|_,_=>none
  |some (.bI id off n sz)=>match h9 gl s.env 0 bc,h9 gl s.env n al with
   |some l,some h=>if jW=sz/\sz≠0/\0<=l/\l<=h/\h<=n then(if 0<l/\l=h then s.put d (.list none sz [])else s.put d (.bI id (off+l.toNat*sz) (h.toNat-l.toNat) sz))else none|_,_=>none
  |_=>none
 |.q4 d x n sz bc al=>match eQ gl s.env x with
  |some (.jV cs)=>if cs.length=n*sz/\n<=1000 then match h9 gl s.env 0 bc,h9 gl s.env n al with
   |some l,some h=>if 0<=l/\l<=h/\h<=n then s.put d (.list none sz (((chunk sz n cs).take h.toNat).drop l.toNat))else none|_,_=>none
   else none
  |_=>none
 |.app d u x e sz=>match Env.get s.env u,(br gl s.env x).bind AV.ju with
  |some (.v (.list (some cB) dW xs)),some (nX,ys) =>
   if cB=e/\dW=sz/\nX=sz/\d≠u/\xs.length+ys.length<=M then
    (s.put u (.list none sz xs)).bind λs=>s.put d (.list (some e) sz (xs++ys))else none
  |some (.v (.aS dW)),some (nX,ys)=>if dW=sz/\nX=sz/\d≠u/\ys.length<=M then s.put d (.list (some e) sz ys)else none|_,_=>none
 |.hL d x=>match x with
  |.t n=>match Env.get s.env n with
   |some (.b _)=>if e9 s.env d then some { s with env:=s.env.ins d (.a n 0) }else none|some (.a t off)=>if e9 s.env d then some { s with env:=s.env.ins d (.a t off) }else none|some (.v (.ptr id off))=>s.put d (.ptr id off)|some (.v (.cL cs))=>s.put d (.cL cs)|_=>none
  |_=>none
 |.pq d f hb=>(e8 gl s.env hb).bind λvs=>if vs.all AV.one then s.put d (.fn f (vs.map AV.a1))else none|.r3 d c e sz=>match br gl s.env c with
  |some (.int _ n)=>if 0<=n/\n<=M then s.put d (.list (some e) sz [])else none|_=>none
 |.vy d e z=>({ s with heap:=s.heap++[ay.buf e z,.dead] }).put d (.ptr s.heap.length 0)|.r4 d x e sz=>match br gl s.env x with
  |some (.ptr id 0)=>(match s.heap[id]? with|some (.buf cB cs)=>if cB=e/\sz<=cs.length then s.put d (.ptr id 0)else none|_=>none)|_=>none
 |.r5 d k6 x y=>match br gl s.env x,br gl s.env y with
  |some (.int k a),some (.int _ b)=>s.put d (.int k (if k6=true then(if b>a then b else a)else(if b<a then b else a)))|_,_=>none
 |.vz d=>({ s with heap:=s.heap++[ay.map 0 []] }).put d (.map s.heap.length)|.look ks d m k zero ok=>match br gl s.env m,br gl s.env k with
  |some (.map id),some kk=>match s.heap[id]? with
   |some (.map _ es)=>if fE ks kk&&lr ks es then
     (match hl es kk with
      |some v=>s.put d (if ok=true then .bg [v.a1,.bool true]else v.a1)|none=>s.put d (if ok=true then .bg [zero,.bool false]else zero))else none
   |_=>none
  |some .ha,some kk=>if fE ks kk then s.put d (if ok=true then .bg [zero,.bool false]else zero)else none|_,_=>none
 |.iN ks d m k zero=>match br gl s.env m,br gl s.env k with
  |some (.map id),some kk=>match s.heap[id]? with
   |some (.map n es)=>if fE ks kk&&lr ks es then
     (match hl es kk with
      |some (.list (some e) sz xs)=>({ s with heap:=s.heap.set id (.map n (jv es kk (.list none sz xs))) }).put d (.list (some e) sz xs)|some _=>none|none=>s.put d zero)else none
   |_=>none
  |_,_=>none
 |.qc ks m k v=>match br gl s.env m,br gl s.env k,br gl s.env v with
  |some (.map id),some kk,some v=>match s.heap[id]? with
   |some (.map n es)=>if fE ks kk&&lr ks es then some { s with heap:=s.heap.set id (pr n es kk v.a1) }else none|_=>none
  |_,_,_=>none
 |.q5 ks m k v=>match br gl s.env m,br gl s.env k,Env.get s.env v with
  |some (.map id),some kk,some (.v (.list (some e) sz xs))=>match s.heap[id]? with
   |some (.map n es)=>if fE ks kk&&lr ks es then({ s with heap:=s.heap.set id (pr n es kk (.list (some e) sz xs)) }).put v (.list none sz xs)else none|_=>none
  |_,_,_=>none
 |.qd ks d m k=>match br gl s.env m,br gl s.env k with
  |some (.map id),some kk=>match s.heap[id]? with
   |some (.map n es)=>if fE ks kk&&lr ks es then({ s with heap:=s.heap.set id (.map n (vB es kk)) }).fO d (.bg [])else none|_=>none
  |_,_=>none
 |.r6 d m=>match br gl s.env m with
  |some (.map id)=>match s.heap[id]? with
   |some (.map n _)=>({ s with heap:=s.heap++[ay.iter (some id) n []] }).put d (.ptr s.heap.length 0)|_=>none
  |some .ha=>({ s with heap:=s.heap++[ay.iter none 0 []] }).put d (.ptr s.heap.length 0)|_=>none
 |.oK d it=>match br gl s.env it with
  |some (.ptr id 0)=>match s.heap[id]? with
   |some (.iter (some mid) since seen)=>match s.heap[mid]?,seen.getLast? with
    |some (.map n es),some k=>if n=since then(hl es k).bind λv=>s.put d (.bg [k,v.a1])else none|_,_=>none
   |_=>none
  |_=>none
 |.nV d e sz xs=>(e8 gl s.env xs).bind λvs =>
   if vs.all (λv=>v.a1.pure&&v.cells.length==sz)&&decide (vs.length<=1000)then s.put d (.list (some e) sz (vs.map AV.a1))else none
 |.s4 d e sz xs=>(e8 gl s.env xs).bind λvs =>
   if vs.all (λv=>v.cells.length==sz&&v.cells.all AV.one)&&decide (vs.length<=1000)&&sz != 0 then
    ({ s with heap:=s.heap++[ay.buf e (vs.map λv:AV=>v.cells.map AV.a1).flatten,.dead] }).put d (.bI s.heap.length 0 vs.length sz)else none
 |.s5 d e z x=>match br gl s.env x with
  |some (.int _ n)=>if 0<=n/\n<=100000 then({ s with heap:=s.heap++[ay.buf e (List.replicate n.toNat z).flatten,.dead] }).put d (.bI s.heap.length 0 n.toNat z.length)else none|_=>none
 |.r7 d e sz sb u x=>match br gl s.env u,(br gl s.env x).bind (AV.vx sb)with
  |some (.aS oM),some (dW,ys)=>if oM=sz/\dW=sz/\ys.length<=M then match ys with
    |[]=>s.put d (.aS sz)|_::_=>({ s with heap:=s.heap++[ay.buf e (ys.map λv:AV=>v.cells.map AV.a1).flatten,.dead] }).put d (.bI s.heap.length 0 ys.length sz)
    else none
  |some (.bI id 0 n oM),some (dW,ys)=>match s.heap[id]? with
   |some (.buf cB cs)=>if cB=e/\oM=sz/\dW=sz/\n*sz<=cs.length/\n+ys.length<=M then
     ({ s with heap:=s.heap.set id .dead++[ay.buf e ((cs.take (n*sz)).map AV.a1++(ys.map λv:AV=>v.cells.map AV.a1).flatten),.dead] }).put d (.bI s.heap.length 0 (n+ys.length) sz)else none
   |_=>none
  |_,_=>none
 |.r8 d ne x=>match br gl s.env x with
  |some (.aS _)=>s.put d (.bool (!ne))|some (.hK _)=>s.put d (.bool ne)|some (.list _ _ (_::_))=>s.put d (.bool ne)|_=>none
 |.s6 d x=>match br gl s.env x with
  |some (.bI id off n _)=>if 0<n then s.put d (.ptr id off)else none|some (.aS _)=>s.put d .fl|_=>none
 |.s7 d e x n=>match br gl s.env x,br gl s.env n with
  |some (.ptr id 0),some (.int .i64 n)=>match s.heap[id]? with
   |some (.buf cB cs)=>if cB=e/\0<n/\n<=cs.length/\n<=M then(bytesOf (cs.take n.toNat)).bind λb=>({ s with heap:=s.heap.set id .dead }).put d (.str b)else none|_=>none
  |some .fl,some (.int .i64 n)=>if n=0 then s.put d (.str [])else none|_,_=>none
 |.s8 d _ x=>(br gl s.env x).bind λv=>s.put d v.a1|.lW b n x v=>(qe b n s.heap (br gl s.env x) (br gl s.env v)).map λH=>{ s with heap:=H }|.s9 _ z x=>match br gl s.env x with
  |some (.bI id off n sz)=>if z.length=sz/\0<n then bb s (List.replicate n z).flatten (.ar id off)else if n=0 then some s else none|some (.list _ _ [])=>some s|some (.aS _)=>some s|_=>none
 |.uu d _ x y=>match br gl s.env x,br gl s.env y with
  |some (.str a),some (.str b)=>s.put d (.int .i64 (du a b))|_,_=>none
 |.on m o=>if eV s.env (gk o)=m then aJ s o else none|.bad _=>none|.nU .. |.mC .. |.lX .. |.eP .. |.iu .. |.lY ..=>none
end
open Go
abbrev fA:=Nat->Nat->Option Value
mutual
inductive dr(γ:fA):AV->Value->Prop where
 |bool (b:Bool):dr γ (.bool b) (.bool b)|int (k:IntKind) (n:Int):dr γ (.int k n) (.int k n)|str (s:List UInt8):s.length<=M->dr γ (.str s) (.string ⟨s.toArray⟩)|fl:dr γ .fl (.pointer none)|ha:dr γ .ha (.map none)|k4:dr γ .k4 .nilFunc|k5:dr γ .k5 .nilIface|aS (sz:Nat):dr γ (.aS sz) (.slice none 0 0)|cL (b off:Nat) (cs:List AV):fB γ b off cs->dr γ (.cL cs) (.pointer (some ⟨b,off,none⟩))|kn (sz:Nat) (base:Option Addr) (cap:Nat):(base=none->cap=0)->dr γ (.list none sz []) (.slice base 0 cap)|hK (sz:Nat) (base:Addr) (cap:Nat):dr γ (.hK sz) (.slice (some base) 0 cap)|list (b off cap sz:Nat) (xs:List AV):xs.length<=M->xs.length<=cap->fa γ b off sz xs->dr γ (.list none sz xs) (.slice (some ⟨b,off,none⟩) xs.length cap)|agg (cs:List AV) (ws:List Value):fX γ cs ws->dr γ (.agg cs) (.agg ws.toArray)
inductive fB(γ:fA):Nat->Nat->List AV->Prop where
 |nil (b off:Nat):fB γ b off []|cons (b off:Nat) (c:AV) (cs:List AV) (v:Value):γ b off=some v->v.oneCell'=true->dr γ c v->fB γ b (off+1) cs->fB γ b off (c::cs)
inductive fa(γ:fA):Nat->Nat->Nat->List AV->Prop where
 |nil (b off sz:Nat):fa γ b off sz []|cons (b off sz:Nat) (x:AV) (xs:List AV):x.cells.length=sz->fB γ b off x.cells->fa γ b (off+sz) sz xs->fa γ b off sz (x::xs)
inductive fX(γ:fA):List AV->List Value->Prop where
 |nil:fX γ [] []|cons (c:AV) (cs:List AV) (v:Value) (ws:List Value):v.oneCell'=true->dr γ c v->fX γ cs ws->fX γ (c::cs) (v::ws)
end
inductive eW where
 |none|outer|DZ|var (t:Nat)|eK (t:Nat)|fb (t i:Nat)|bM (id:Nat)|oc (id i:Nat)
 deriving DecidableEq
structure bD where
 γ:fA
 bO:Nat->eW
 cg:Nat->Option Nat
mutual
inductive bn(g:bD):AV->Value->Prop where
 |pure (x:AV) (v:Value):dr g.γ x v->bn g x v|own (e sz:Nat) (xs:List AV) (v:Value):dr g.γ (.list none sz xs) v->bn g (.list (some e) sz xs) v|ptr (id off b:Nat):g.cg id=some b->bn g (.ptr id off) (.pointer (some ⟨b,off,none⟩))|map (id b:Nat):g.cg id=some b->bn g (.map id) (.map (some b))|lU (sz:Nat) (base:Option Addr):bn g (.lU sz) (.slice base 0 0)|bI (id off n sz b k cap:Nat):g.cg id=some b->g.cg (id+1)=some k->off+cap*sz=k->n<=cap->bn g (.bI id off n sz) (.slice (some ⟨b,off,none⟩) n cap)|fn (f:Nat) (cs:List AV) (ws:List Value):cS g cs ws->bn g (.fn f cs) (.func (.func f) #[] ws.toArray)|agg (cs:List AV) (ws:List Value):cS g cs ws->(∀w∈ws,w.oneCell'=true)->bn g (.agg cs) (.agg ws.toArray)|bg (cs:List AV) (ws:List Value):cS g cs ws->bn g (.bg cs) (.tuple ws.toArray)
inductive cS(g:bD):List AV->List Value->Prop where
 |nil:cS g [] []|cons (c:AV) (cs:List AV) (v:Value) (ws:List Value):bn g c v->cS g cs ws->cS g (c::cs) (v::ws)
end
def xH(γ fm:fA):Prop:=∀b o v,γ b o=some v->fm b o=some v
variable {γ fm:fA}{x:AV}{v:Value}
theorem dr.mono(h:xH γ fm)(ah:dr γ x v):dr fm x v:=by
 refine dr.rec (motive_1:=λx v _=>dr fm x v) (motive_2:=λb off cs _=>fB fm b off cs) (motive_3:=λb off sz xs _=>fa fm b off sz xs)
  (motive_4:=λcs ws _=>fX fm cs ws) ?_ ?_ ?_ ?_ ?_ ?_ ?_ ?_ ?_ ?_ ?_ ?_ ?_ ?_ ?_ ?_ ?_ ?_ ?_ ah
 ·exact λb=>.bool b
 ·exact λk n=>.int k n
 ·exact λs ax=>.str s ax
 ·exact .fl
 ·exact .ha
 ·exact .k4
 ·exact .k5
 ·exact λsz=>.aS sz
 ·exact λb off cs _ h=>.cL b off cs h
 ·exact λsz base cap h=>.kn sz base cap h
 ·exact λsz base cap=>.hK sz base cap
 ·exact λb off cap sz xs a f _ d=>.list b off cap sz xs a f d
 ·exact λcs ws _ h=>.agg cs ws h
 ·exact λb off=>.nil b off
 ·exact λb off c cs v a d _ _ e g=>.cons b off c cs v (h _ _ _ a) d e g
 ·exact λb off sz=>.nil b off sz
 ·exact λb off sz x xs a _ _ d e=>.cons b off sz x xs a d e
 ·exact .nil
 ·exact λc cs v ws a _ _ d e=>.cons c cs v ws a d e
theorem fB.mono(h:xH γ fm):∀{cs:List AV}{b off:Nat},fB γ b off cs->fB fm b off cs
 |[],_,_,_=>.nil _ _|_::_,_,_,.cons _ _ _ _ v h1 a c d=>.cons _ _ _ _ v (h _ _ _ h1) a (c.mono h) (fB.mono h d)
theorem fa.mono(h:xH γ fm):∀{xs:List AV}{b off sz:Nat},fa γ b off sz xs->fa fm b off sz xs
 |[],_,_,_,_=>.nil _ _ _|_::_,_,_,_,.cons _ _ _ _ _ h1 a c=>.cons _ _ _ _ _ h1 (a.mono h) (fa.mono h c)
structure GhLe(g g':bD):Prop where
 γ:xH g.γ g'.γ
 cg:∀id b,g.cg id=some b->g'.cg id=some b
variable {g g':bD}
theorem bn.mono(h:GhLe g g')(ah:bn g x v):bn g' x v:=by
 refine bn.rec (motive_1:=λx v _=>bn g' x v) (motive_2:=λcs ws _=>cS g' cs ws) ?_ ?_ ?_ ?_ ?_ ?_ ?_ ?_ ?_ ?_ ?_ ah
 ·exact λx v ar=>.pure x v (ar.mono h.γ)
 ·exact λe sz xs v ar=>.own e sz xs v (ar.mono h.γ)
 ·exact λid off b ae=>.ptr id off b (h.cg _ _ ae)
 ·exact λid b ae=>.map id b (h.cg _ _ ae)
 ·exact λsz base=>.lU sz base
 ·exact λid off n sz b k cap a i j l=>.bI id off n sz b k cap (h.cg _ _ a) (h.cg _ _ i) j l
 ·exact λf cs ws _ d=>.fn f cs ws d
 ·exact λcs ws _ a d=>.agg cs ws d a
 ·exact λcs ws _ d=>.bg cs ws d
 ·exact .nil
 ·exact λc cs v ws _ _ a i=>.cons c cs v ws a i
theorem cS.mono(h:GhLe g g'):∀{cs:List AV}{ws:List Value},cS g cs ws->cS g' cs ws
 |[],_,.nil=>.nil|_::_,_,.cons _ _ _ _ h1 a=>.cons _ _ _ _ (h1.mono h) (cS.mono h a)
def fC(P:Program)(g:bD)(w:World)(o:eW)(x:AV)(v:Value):Prop :=
 ∀e sz xs,x=.list (some e) sz xs->∃i z vs,P.info? e=some i/\i.size=sz/\0<sz/\i.zero=some z/\z.cells.size=sz/\i.bytes<=128 /\
  xs.length<=M/\w.ownsRow 0 e sz v xs.length vs/\∀b,v.ownBlock=some b->g.bO b=o/\fa g.γ b 0 sz xs/\∀off,xs.length*sz<=off->g.γ b off=none
def jw(P:Program)(g:bD)(w:World)(b:Nat)(o:eW)(oc:Nat->eW)(cs:List AV):Prop :=
 ∃arr ty,w.heap[b]?=some (.cells arr ty (0,0))/\cs.length<=arr.size/\g.bO b=o/\(∀off,g.γ b off=none) /\
  ∀i c,cs[i]?=some c->∃v,arr[i]?=some v/\v.oneCell'=true/\bn g c v/\fC P g w (oc i) c v
def ptrTo(b off:Nat):Value:=.pointer (some ⟨b,off,none⟩)
def zl(P:Program)(g:bD)(env:Env)(a:Act)(w:World)(t:Nat):dc->Prop
 |.v x=>∃v,a.tmps[t]?=some v/\bn g x v/\fC P g w (.var t) x v|.b cs=>∃b,a.tmps[t]?=some (ptrTo b 0)/\jw P g w b (.eK t) (.fb t) cs|.a u off=>(∃cs,env.get u=some (.b cs))/\∃b,a.tmps[t]?=some (ptrTo b off)/\a.tmps[u]?=some (ptrTo b 0)
def Bm(P:Program)(g:bD)(w:World)(id:Nat)(e:AV×AV)(m:MapEntry):Prop :=
 bn g e.1 m.key/\ia e.1=true/\bn g e.2 m.val/\fC P g w (.oc id m.born) e.2 m.val
def Hy(P:Program)(g:bD)(w:World)(id:Nat)(es:List (AV×AV))(arr:List MapEntry):Prop :=
 ∃dd:List (AV×AV),dd.Perm es/\dd.length=arr.length/\∀(i:Nat)e m,dd[i]?=some e->arr[i]?=some m->Bm P g w id e m
def np(P:Program)(g:bD)(w:World)(id b n:Nat)(es:List (AV×AV)):Prop :=
 ∃arr,w.heap[b]?=some (.map arr n)/\g.bO b=.bM id/\Hy P g w id es arr.toList /\
  arr.toList.Pairwise (λx y=>x.born<y.born)/\(∀m∈arr.toList,m.born<n)/\es.Pairwise (λx y=>dS x.1 y.1=false)/\∃ks,∀e∈es,fE ks e.1=true
def Hz(w:World)(bu since:Nat)(seen:List AV)(hn:List Nat):Prop :=
 ∃L:List (AV×Nat),L.Pairwise (λx y=>dS x.1 y.1=false/\x.2≠y.2)/\(∀x∈L,x.2<since/\ia x.1=true)/\seen.length=hn.length /\
  (∀(i:Nat)k s,seen[i]?=some k->hn[i]?=some s->(k,s)∈L) /\
  ∀arr,w.heap[bu]?=some (.map arr since)->∀m∈arr.toList,∃k,(k,m.born)∈L/\dr (λ_ _=>none) k m.key
def qf(g:bD)(w:World)(since:Nat)(seen:List AV):Option Nat->Obj->Prop
 |none,.mapIter none _ _ _=>True|some mid,.mapIter (some bu) s hn last=>g.cg mid=some bu/\g.bO bu=.bM mid/\s=since/\last=since/\Hz w bu since seen hn.toList/\∃arr n,w.heap[bu]?=some (.map arr n)/\since<=n|_,_=>False
def tb(P:Program)(g:bD)(w:World)(id:Nat):ay->Prop
 |.cells cs=>∃b,g.cg id=some b/\jw P g w b (.bM id) (.oc id) cs|.buf e cs=>∃b k,g.cg id=some b/\g.cg (id+1)=some k/\jw P g w b (.bM id) (.oc id) cs /\
   (∃arr,w.heap[b]?=some (.cells arr e (0,0))/\arr.size=k)/\∃i z,P.info? e=some i/\0<i.size/\i.zero=some z/\z.cells.size=i.size/\i.bytes<=128/\k<=maxLen*i.size
 |.map n es=>∃b,g.cg id=some b/\np P g w id b n es|.iter m since seen=>∃b o,g.cg id=some b/\w.heap[b]?=some o/\g.bO b=.bM id/\qf g w since seen m o|.dead=>True
structure Rel(P:Program)(gl:cQ)(N:Nat)(g:bD)(s:au)(a:Act)(w:World):Prop where
 sorted:s.env.Pairwise λp q=>p.1<q.1
 size:a.tmps.size=N
 defers:a.defers=[]
 env:∀t e,s.env.get t=some e->zl P g s.env a w t e
 heap:∀(id:Nat)o,s.heap[id]?=some o->tb P g w id o
 fI:∀b off v,g.γ b off=some v->w.cell? ⟨b,off,none⟩=some v
 own:∀b,g.bO b≠.none->b<w.heap.size
 hf:∀n x,gl n=some x->dr g.γ x (ptrTo n 0)
 ga:∀id b,g.cg id=some b->id<s.heap.length
structure eL(g:bD)(w:World)(g':bD)(w':World):Prop extends GhLe g g' where
 outer:∀b,g.bO b=.outer->g'.bO b=.outer/\w'.heap[b]?=w.heap[b]?/\∀o,g'.γ b o=g.γ b o
 size:w.heap.size<=w'.heap.size
 os:(w'.os,w'.tape)=(w.os,w.tape)
 out:w'.output=w.output
theorem eL.refl(g:bD)(w:World):eL g w g w:=⟨⟨λ_ _ _ h=>h,λ_ _ h=>h⟩,λ_ h=>⟨h,rfl,λ_=>rfl⟩,Nat.le_refl _,rfl,rfl⟩
variable {w w':World}
theorem eL.trans{c:bD}{d:World}(h:eL g w g' w')(a:eL g' w' c d):eL g w c d :=
 ⟨⟨λ_ _ _ x=>a.γ _ _ _ (h.γ _ _ _ x),λ_ _ x=>a.cg _ _ (h.cg _ _ x)⟩,
  λb ae=>by
  obtain⟨e,f,i⟩:=h.outer b ae;obtain⟨j,k,l⟩:=a.outer b e;exact⟨j,k.trans f,λo=>(l o).trans (i o)⟩,Nat.le_trans h.size a.size,a.os.trans h.os,a.out.trans h.out⟩
def Kept(g:bD)(w:World)(g':bD)(w':World)(K:eW->Prop):Prop :=
 ∀b,K (g.bO b)->g'.bO b=g.bO b/\w'.heap[b]?=w.heap[b]?/\∀o,g'.γ b o=g.γ b o
variable {P:Program}{o:eW}
theorem fC.mE(h:∀e sz xs,x≠.list (some e) sz xs):fC P g w o x v :=
 λe sz xs ah=>absurd ah (h e sz xs)
variable {n:Nat}
theorem amC{base:Nat}{e size:Nat}{xs:List Value}(h:w.ownsRow base e size v n xs)
  (hk:∀b,v.ownBlock=some b->w'.heap[b]?=w.heap[b]?):w'.ownsRow base e size v n xs:=by
 refine⟨h.1,?_⟩;rcases h.2 with h|⟨g,cap,a,rfl,c,d,f⟩
 ·exact .inl h
 ·exact .inr ⟨g,cap,a,rfl,c,(hk g rfl).trans d,f⟩
variable {K:eW->Prop}
theorem fC.kept(h:fC P g w o x v)(d:GhLe g g')
  (hk:Kept g w g' w' K)(aE:K o):fC P g' w' o x v:=by
 intro e sz xs ah;obtain⟨i,z,vs,f,j,k,l,m,p,q,r,a⟩:=h e sz xs ah;refine⟨i,z,vs,f,j,k,l,m,p,q,amC r λb ae=>?_,λb ae=>?_⟩
 ·have:=(a b ae).1;exact(hk b (by rw[this];exact aE)).2.1
 ·obtain⟨c,s,t⟩:=a b ae;obtain⟨u,B,y⟩:=hk b (by rw[c];exact aE);exact⟨u.trans c,s.mono d.γ,λoff A=>(y off).trans (t off A)⟩
variable {b:Nat}
theorem jw.kept{oc:Nat->eW}{cs:List AV}(h:jw P g w b o oc cs)
  (a:GhLe g g')(hk:Kept g w g' w' K)(aE:K o)(e:∀i,K (oc i)):jw P g' w' b o oc cs:=by
 obtain⟨arr,f,j,k,d,l,m⟩:=h;obtain⟨p,q,r⟩:=hk b (by rw[d];exact aE);refine⟨arr,f,q.trans j,k,p.trans d,λoff=>(r off).trans (l off),λi c s=>?_⟩;obtain⟨v,t,u,y,z⟩:=m i c s;exact⟨v,t,u,y.mono a,z.kept a hk (e i)⟩
variable {a:Act}
theorem zl.kept{env:Env}{t:Nat}{e:dc}(h:zl P g env a w t e)
  (c:GhLe g g')(hk:Kept g w g' w' K)(j:K (.var t))(k:K (.eK t))(l:∀i,K (.fb t i)):zl P g' env a w' t e:=by
 cases e with
 |v x=>obtain⟨v,d,f,m⟩:=h;exact⟨v,d,f.mono c,m.kept c hk j⟩
 |b cs=>obtain⟨b,d,f⟩:=h;exact⟨b,d,f.kept c hk k l⟩
 |a u off=>exact h
variable {id:Nat}{es:List (AV×AV)}
theorem Hy.kept{arr:List MapEntry}(h:Hy P g w id es arr)
  (c:GhLe g g')(hk:Kept g w g' w' K)(d:∀i,K (.oc id i)):Hy P g' w' id es arr:=by
 obtain⟨dd,f,j,k⟩:=h;refine⟨dd,f,j,λi e m he hm=>?_⟩;obtain⟨l,p,q,r⟩:=k i e m he hm;exact⟨l.mono c,p,q.mono c,r.kept c hk (d _)⟩
theorem np.kept(h:np P g w id b n es)
  (d:GhLe g g')(hk:Kept g w g' w' K)(e:K (.bM id))(f:∀i,K (.oc id i)):np P g' w' id b n es:=by
 obtain⟨arr,j,c,k,l⟩:=h;obtain⟨m,p,_⟩:=hk b (by rw[c];exact e);exact⟨arr,p.trans j,m.trans c,k.kept d hk f,l⟩
variable {since:Nat}{seen:List AV}
theorem Hz.kept{bu:Nat}{c:List Nat}(h:Hz w bu since seen c)(hk:w'.heap[bu]?=w.heap[bu]?):Hz w' bu since seen c:=by
 obtain⟨L,d,e,f,i,j⟩:=h;exact⟨L,d,e,f,i,λarr aG=>j arr (hk▸aG)⟩
theorem qf.kept{m:Option Nat}{o:Obj}(h:qf g w since seen m o)
  (e:GhLe g g')(hk:Kept g w g' w' K)(f:∀mid,m=some mid->K (.bM mid)):qf g' w' since seen m o:=by
 cases m with
 |none =>
  cases o<;>first|exact h|skip
  rename_i mp _ _ _;cases mp<;>exact h
 |some mid =>
  cases o<;>try exact h
  rename_i mp s t last;cases mp with
  |none=>exact h|some bu =>
   obtain⟨i,c,j,k,l,arr,n,p,q⟩:=h;obtain⟨r,d,_⟩:=hk bu (by rw[c];exact f mid rfl);exact⟨e.cg _ _ i,r.trans c,j,k,l.kept d,arr,n,d.trans p,q⟩
theorem tb.kept{o:ay}(h:tb P g w id o)
  (c:GhLe g g')(hk:Kept g w g' w' K)(j:∀id,K (.bM id))(p:∀i,K (.oc id i)):tb P g' w' id o:=by
 cases o with
 |cells cs=>obtain⟨b,d,f⟩:=h;exact⟨b,c.cg _ _ d,f.kept c hk (j id) p⟩
 |buf e cs =>
  obtain⟨b,k,d,f,l,⟨arr,q,t⟩,u⟩:=h;obtain⟨_,_,_,_,s,_⟩:=l;refine⟨b,k,c.cg _ _ d,c.cg _ _ f,jw.kept ⟨_,_,‹_›,‹_›,s,‹_›⟩ c hk (j id) p,⟨arr,?_,t⟩,u⟩;exact(hk b (by rw[s];exact j id)).2.1.trans q
 |map n es=>obtain⟨b,d,f⟩:=h;exact⟨b,c.cg _ _ d,f.kept c hk (j id) p⟩
 |iter m since seen =>
  obtain⟨b,o,d,f,l,q⟩:=h;obtain⟨y,z,_⟩:=hk b (by rw[l];exact j id);exact⟨b,o,c.cg _ _ d,z.trans f,y.trans l,q.kept c hk λr _=>j r⟩
 |dead=>trivial
theorem tb.beside{q:Nat}{o:ay}(h:tb P g w q o)
  (c:GhLe g g')(hk:Kept g w g' w' K)(l:q≠id)(ae:g.cg id=some b)(hm:∀arr n,w.heap[b]?≠some (.map arr n))(j:∀i,i≠id->K (.bM i))(s:∀i,K (.oc q i)):tb P g' w' q o:=by
 cases o with
 |cells cs=>obtain⟨b,d,f⟩:=h;exact⟨b,c.cg _ _ d,f.kept c hk (j _ l) s⟩
 |buf e cs =>
  obtain⟨b,k,d,f,r,⟨arr,p,y⟩,z⟩:=h;obtain⟨_,_,_,_,t,_⟩:=r;refine⟨b,k,c.cg _ _ d,c.cg _ _ f,jw.kept ⟨_,_,‹_›,‹_›,t,‹_›⟩ c hk (j _ l) s,⟨arr,?_,y⟩,z⟩;exact(hk b (by rw[t];exact j _ l)).2.1.trans p
 |map n es=>obtain⟨b,d,f⟩:=h;exact⟨b,c.cg _ _ d,f.kept c hk (j _ l) s⟩
 |iter m since seen =>
  obtain⟨u,o,d,f,r,p⟩:=h;obtain⟨A,B,_⟩:=hk u (by rw[r];exact j _ l);refine⟨u,o,c.cg _ _ d,B.trans f,A.trans r,p.kept c hk λC D=>j _ ?_⟩;rintro rfl;subst D;cases o<;>simp only[qf]at p;rename_i mp _ _ _;cases mp with
  |none=>exact p.elim|some bu=>grind
 |dead=>trivial
theorem Rel.later{gl:cQ}{N:Nat}{s:au}(h:Rel P gl N g s a w)(d:GhLe g g')
  (hk:Kept g w g' w' K)(c:∀o,o≠.none->K o)(f:∀b off v,g'.γ b off=some v->w'.cell? ⟨b,off,none⟩=some v)
  (i:∀b,g'.bO b≠.none->b<w'.heap.size)(j:∀id b,g'.cg id=some b->id<s.heap.length):Rel P gl N g' s a w' :=
 ⟨h.sorted,h.size,h.defers,λt e he=>(h.env t e he).kept d hk (c _ be) (c _ be) (λ_=>c _ be),
  λid o aE=>(h.heap id o aE).kept d hk (λ_=>c _ be) (λ_=>c _ be),f,i,λn x ah=>(h.hf n x ah).mono d.γ,j⟩
namespace Env
def et(e:Env):Prop:=e.Pairwise λp q=>p.1<q.1
theorem hW(e:Env)(t:Nat)(x:dc)(u:Nat):(e.ins t x).get u=if u=t then some x else e.get u:=by
 induction e with
 |nil=>simp[ins,get]|cons p r ih =>
  obtain⟨k,y⟩:=p;simp only[ins];split
  ·simp[get]
  ·split
   ·rename_i d c;subst c;by_cases h:u=t<;>simp[get,h]
   ·rename_i d c;simp only[get,ih];by_cases h:u=k
    ·simp[h,show ¬k=t from λe=>c e.symm]
    ·simp[h]
theorem Uu(e:Env)(t u:Nat):(e.del t).get u=if u=t then none else e.get u:=by
 induction e with
 |nil=>simp[del,get]|cons p r ih =>
  obtain⟨k,y⟩:=p;simp only[del];split
  ·rename_i h;subst h;rw[ih];by_cases h:u=t<;>simp[get,h]
  ·rename_i h;simp only[get,ih];by_cases c:u=k
   ·grind
   ·simp[c]
variable {e:Env}{t:Nat}{x:dc}{p:Nat×dc}
theorem Uv(h:p∈e.ins t x):p=(t,x)\/p∈e:=by
 induction e with
 |nil=>simp_all[ins]|cons q r ih =>
  obtain⟨k,y⟩:=q;simp only[ins]at h;split at h
  ·grind
  ·grind
theorem et.ins(h:e.et)(t:Nat)(x:dc):(e.ins t x).et:=by
 induction e with
 |nil=>simp[Env.ins,et]|cons p r ih =>
  obtain⟨k,y⟩:=p;have d:=aKC.1 h;simp only[Env.ins];split
  ·rename_i f;refine aKC.2 ⟨λq c=>?_,h⟩;rcases List.mem_cons.1 c with rfl|c
   ·exact f
   ·exact Nat.lt_trans f (d.1 q c)
  ·split
   ·rename_i j i;subst i;exact aKC.2 ⟨d.1,d.2⟩
   ·rename_i j i;refine aKC.2 ⟨λq c=>?_,ih d.2⟩;rcases Uv c with rfl|c
    ·simp only;omega
    ·exact d.1 q c
theorem amD(h:p∈e.del t):p∈e:=by
 induction e with
 |nil=>simp[del]at h|cons q r ih =>
  obtain⟨k,y⟩:=q;simp only[del]at h;split at h
  ·exact List.mem_cons_of_mem _ (ih h)
  ·grind
theorem et.del(h:e.et)(t:Nat):(e.del t).et:=by
 induction e with
 |nil=>simp[Env.del,et]|cons p r ih =>
  obtain⟨k,y⟩:=p;have c:=aKC.1 h;simp only[Env.del];split
  ·exact ih c.2
  ·exact aKC.2 ⟨λq d=>c.1 q (amD d),ih c.2⟩
theorem tc(h:e.get t=some x):(t,x)∈e:=by
 induction e with
 |nil=>simp[get]at h|cons p r ih =>
  obtain⟨k,y⟩:=p;simp only[get]at h;split at h
  ·rename_i c;subst c;simp at h;simp[h]
  simp_all
theorem get_of_mem(ax:e.et)(h:(t,x)∈e):e.get t=some x:=by
 induction e with
 |nil=>simp at h|cons p r ih =>
  obtain⟨k,y⟩:=p;have c:=aKC.1 ax;simp only[get];rcases List.mem_cons.1 h with h|h
  ·simp at h;simp[h.1,h.2]
  ·have:=c.1 _ h;simp only at this;simp only[show ¬t=k from by omega,if_false];exact ih c.2 h
variable {bE:List Nat}
theorem HC(h:p∈e.close bE):p∈e/\∀u off,p.2≠.a u off:=by
 induction e with
 |nil=>simp[close]at h|cons q r ih =>
  obtain⟨k,y⟩:=q;cases y with
  |a u off =>
   simp only[close]at h;exact⟨List.mem_cons_of_mem _ (ih h).1,(ih h).2⟩
  |v x =>
   simp only[close]at h;split at h
   ·grind
   ·grind
  |b cs =>
   simp only[close]at h;split at h
   ·grind
   ·grind
theorem et.close(h:e.et)(bE:List Nat):(e.close bE).et:=by
 induction e with
 |nil=>simp[Env.close,et]|cons p r ih =>
  obtain⟨k,y⟩:=p;have c:=aKC.1 h;cases y with
  |a u off=>exact ih c.2|v x =>
   simp only[Env.close];split
   ·exact ih c.2
   ·exact aKC.2 ⟨λq d=>c.1 q (HC d).1,ih c.2⟩
  |b cs =>
   simp only[Env.close];split
   ·exact ih c.2
   ·exact aKC.2 ⟨λq d=>c.1 q (HC d).1,ih c.2⟩
theorem amE(ax:e.et){u:Nat}(h:(e.close bE).get u=some x):e.get u=some x/\∀v off,x≠.a v off :=
 ⟨get_of_mem ax (HC (tc h)).1,(HC (tc h)).2⟩
end Env
open Go
def cY(x:AV):Prop:=∀e sz xs,x≠.list (some e) sz xs
theorem cY.a1(x:AV):cY x.a1:=λe sz xs h=>by cases x<;>simp[AV.a1]at h
theorem cY.none(sz:Nat)(xs:List AV):cY (.list none sz xs):=λ_ _ _ h=>by simp at h
theorem cY.gG(h:cY x):fC P g w o x v:=.mE h
theorem bn.a1(h:bn g x v):bn g x.a1 v:=by
 cases x<;>try exact h
 rename_i own sz xs;cases own with
 |none=>exact h|some e=>cases h with
  |own _ _ _ _ h=>exact .pure _ _ h|pure _ _ h=>cases h
theorem td{d:Nat}(hd:d<a.tmps.size)(v:Value)(t:Nat):(a.put (some d) v).tmps[t]?=if t=d then some v else a.tmps[t]?:=by
 simp only[Act.put];by_cases h:t=d
 ·subst h;simp[hd]
 ·grind
structure lu(s:au)(x:eW):Prop where
 var:∀t y,x=.var t->s.env.get t=some (.v y)->cY y
 fb:∀t i cs c,x=.fb t i->s.env.get t=some (.b cs)->cs[i]?=some c->cY c
 oc:∀(id i:Nat)cs c,x=.oc id i->(s.heap[id]?=some (.cells cs)\/∃e,s.heap[id]?=some (.buf e cs))->cs[i]?=some c->cY c
 amF:∀(id i:Nat)n es,x=.oc id i->s.heap[id]?=some (.map n es)->∀e∈es,cY e.2
 eK:∀t,x≠.eK t
 bM:∀id,x≠.bM id
theorem lu.none(s:au):lu s .none:=⟨be,be,be,be,be,be⟩
section
variable {P:Program}{gl:cQ}{N:Nat}{g g':bD}{s s':au}{a:Act}{w w':World}
theorem fC.zn(h:fC P g w o x v)(c:GhLe g g')(hk:Kept g w g' w' K)(aE:K o\/cY x):fC P g' w' o x v:=by
 rcases aE with aE|aE
 ·exact h.kept c hk aE
 ·exact aE.gG
variable {cs:List AV}
theorem jw.zn{oc:Nat->eW}(h:jw P g w b o oc cs)
  (d:GhLe g g')(hk:Kept g w g' w' K)(aE:K o)(j:∀i c,cs[i]?=some c->K (oc i)\/cY c):jw P g' w' b o oc cs:=by
 obtain⟨arr,k,l,m,e,p,q⟩:=h;obtain⟨r,t,u⟩:=hk b (by rw[e];exact aE);refine⟨arr,k,t.trans l,m,r.trans e,λoff=>(u off).trans (p off),λi c f=>?_⟩;obtain⟨v,y,z,A,B⟩:=q i c f;exact⟨v,y,z,A.mono d,B.zn d hk (j i c f)⟩
theorem Rel.step(h:Rel P gl N g s a w)(x:eW)(ah:lu s x)(d:GhLe g g')(hk:Kept g w g' w' λo=>o≠.none/\o≠x)
  (G:∀b off v,g'.γ b off=some v->w'.cell? ⟨b,off,none⟩=some v)
  (H:∀b,g'.bO b≠.none->b<w'.heap.size)(J:∀id b,g'.cg id=some b->id<s.heap.length):Rel P gl N g' s a w':=by
 refine⟨h.sorted,h.size,h.defers,λt e he=>?_,λid o aE=>?_,G,H,λn x ah=>(h.hf n x ah).mono d.γ,J⟩
 ·have q:=h.env t e he;cases e with
  |v y =>
   obtain⟨v,j,l,p⟩:=q;refine⟨v,j,l.mono d,p.zn d hk ?_⟩;by_cases f:x=.var t
   ·exact .inr (ah.var t y f he)
   ·exact .inl ⟨be,λe=>f e.symm⟩
  |b cs =>
   obtain⟨b,j,l⟩:=q;refine⟨b,j,l.zn d hk ⟨be,λe=>ah.eK t e.symm⟩ λi c r=>?_⟩;by_cases f:x=.fb t i
   ·exact .inr (ah.fb t i cs c f he r)
   ·exact .inl ⟨be,λe=>f e.symm⟩
  |a u off=>exact q
 ·have q:=h.heap id o aE;cases o with
  |cells cs =>
   obtain⟨b,j,l⟩:=q;refine⟨b,d.cg _ _ j,l.zn d hk ⟨be,λe=>ah.bM id e.symm⟩ λi c r=>?_⟩;by_cases f:x=.oc id i
   ·exact .inr (ah.oc id i cs c f (.inl aE) r)
   ·exact .inl ⟨be,λe=>f e.symm⟩
  |buf e cs =>
   obtain⟨b,k,j,l,p,⟨arr,z,A⟩,L⟩:=q;have B:g.bO b=.bM id:=p.choose_spec.choose_spec.2.2.1;refine⟨b,k,d.cg _ _ j,d.cg _ _ l,p.zn d hk ⟨be,λe=>ah.bM id e.symm⟩ λi c r=>?_,⟨arr,?_,A⟩,L⟩
   ·by_cases f:x=.oc id i
    ·exact .inr (ah.oc id i cs c f (.inr ⟨e,aE⟩) r)
    ·exact .inl ⟨be,λe=>f e.symm⟩
   ·exact(hk b (by rw[B];exact⟨be,λe=>ah.bM id e.symm⟩)).2.1.trans z
  |map n es =>
   obtain⟨b,j,arr,l,p,⟨dd,F,O,Q⟩,A⟩:=q;obtain⟨C,D,_⟩:=hk b (by rw[p];exact⟨be,λe=>ah.bM id e.symm⟩);refine⟨b,d.cg _ _ j,arr,D.trans l,C.trans p,⟨dd,F,O,λi e m he hm=>?_⟩,A⟩;obtain⟨R,S,B,T⟩:=Q i e m he hm;refine⟨R.mono d,S,B.mono d,T.zn d hk ?_⟩;by_cases f:x=.oc id m.born
   ·exact .inr (ah.amF id m.born n es f aE e (F.mem_iff.1 (List.mem_of_getElem? he)))
   ·exact .inl ⟨be,λe=>f e.symm⟩
  |iter m since seen =>
   obtain⟨b,o,j,l,p,z⟩:=q;obtain⟨C,D,_⟩:=hk b (by rw[p];exact⟨be,λe=>ah.bM id e.symm⟩);exact⟨b,o,d.cg _ _ j,D.trans l,C.trans p,z.kept d hk λE _=>⟨be,λe=>ah.bM E e.symm⟩⟩
  |dead=>trivial
variable {env:Env}{d u:Nat}
theorem zo(h:e9 env d=true)(c:env.get u=some (.b cs)):u≠d:=by
 rintro rfl;simp[e9,c]at h
theorem zl.other{j:Env}{t:Nat}{e:dc}(ax:d<a.tmps.size)(i:t≠d)(h:zl P g env a w t e)
  (ae:∀u cs,env.get u=some (.b cs)->(∃off,e=.a u off)->u≠d/\j.get u=some (.b cs)):zl P g j (a.put (some d) v) w t e:=by
 cases e with
 |v x=>obtain⟨u,c,f,k⟩:=h;exact⟨u,by rw[td ax];simp[i,c],f,k⟩
 |b cs=>obtain⟨b,c,f⟩:=h;exact⟨b,by rw[td ax];simp[i,c],f⟩
 |a u off =>
  obtain⟨⟨cs,l⟩,b,c,f⟩:=h;obtain⟨m,p⟩:=ae u cs l ⟨off,rfl⟩;exact⟨⟨cs,p⟩,b,by rw[td ax];simp[i,c],by rw[td ax];simp[m,f]⟩
theorem Rel.put(h:Rel P gl N g s a w)(ar:s.put d x=some s')(hd:d<N)(j:bn g x v)(aE:fC P g w (.var d) x v) :
  Rel P gl N g s' (a.put (some d) v) w:=by
 have ax:d<a.tmps.size:=by rw[h.size];exact hd
 unfold au.put at ar;split at ar
 ·rename_i i;simp at ar;subst ar;refine⟨Env.et.ins h.sorted d _,kW,h.defers,λt e he=>?_,h.heap,h.fI,h.own,h.hf,h.ga⟩;rw[Env.hW]at he;split at he
  ·rename_i c;subst c;simp at he;subst he;exact⟨v,by rw[td ax];simp,j,aE⟩
  ·rename_i c;exact(h.env t e he).other ax c λu cs f _=>⟨zo i f,by rw[Env.hW];simp[zo i f,f]⟩
 ·cases ar
variable {off:Nat}
theorem Rel.amG(h:Rel P gl N g s a w)(f:e9 s.env d=true)(hd:d<N)(c:s.env.get u=some (.b cs))
  (ae:a.tmps[u]?=some (ptrTo b 0)):Rel P gl N g { s with env:=s.env.ins d (.a u off) } (a.put (some d) (ptrTo b off)) w:=by
 have ax:d<a.tmps.size:=by rw[h.size];exact hd
 refine⟨Env.et.ins h.sorted d _,kW,h.defers,λt e he=>?_,h.heap,h.fI,h.own,h.hf,h.ga⟩;simp only at he ⊢;rw[Env.hW]at he;have j:=zo f c;split at he
 ·rename_i i;subst i;simp at he;subst he;exact⟨⟨cs,by rw[Env.hW];simp[j,c]⟩,b,by rw[td ax];simp,by rw[td ax];simp[j,ae]⟩
 ·rename_i i;exact(h.env t e he).other ax i λu cs c _=>⟨zo f c,by rw[Env.hW];simp[zo f c,c]⟩
theorem amH(h:mD env d=false)(c:env.get u=some (.a d off)):False:=by
 unfold mD at h;rw[List.any_eq_false]at h;have:=h _ (Env.tc c);simp at this
theorem Rel.lZ(h:Rel P gl N g s a w)(ar:s.lZ d cs=some s')(hd:d<N)(ae:jw P g w b (.eK d) (.fb d) cs) :
  Rel P gl N g s' (a.put (some d) (ptrTo b 0)) w:=by
 have ax:d<a.tmps.size:=by rw[h.size];exact hd
 unfold au.lZ at ar;split at ar
 ·cases ar
 rename_i cE;simp only[Bool.or_eq_true,not_or,Bool.not_eq_true]at cE;obtain⟨cE,_⟩:=cE;simp only[Option.some.injEq]at ar;subst ar;refine⟨Env.et.ins h.sorted d _,kW,h.defers,λt e he=>?_,h.heap,h.fI,h.own,h.hf,h.ga⟩;simp only at he ⊢;rw[Env.hW]at he;split at he
 ·rename_i c;subst c;simp at he;subst he;exact⟨b,by rw[td ax];simp,ae⟩
 ·rename_i c;refine(h.env t e he).other ax c λu cs f ⟨off,i⟩=>?_;have cG:u≠d:=λe=>amH cE (by rw[he,i,e]);exact⟨cG,by rw[Env.hW];simp[cG,f]⟩
theorem Rel.forget(h:Rel P gl N g s a w)(f:e9 s.env d=true)(hd:d<N) :
  Rel P gl N g { s with env:=s.env.del d } (a.put (some d) v) w:=by
 have ax:d<a.tmps.size:=by rw[h.size];exact hd
 refine⟨Env.et.del h.sorted d,kW,h.defers,λt e he=>?_,h.heap,h.fI,h.own,h.hf,h.ga⟩;simp only at he ⊢;rw[Env.Uu]at he;split at he
 ·cases he
 ·rename_i i;exact(h.env t e he).other ax i λu cs c _=>⟨zo f c,by rw[Env.Uu];simp[zo f c,c]⟩
theorem Rel.close(h:Rel P gl N g s a w)(bE:List Nat):Rel P gl N g { s with env:=s.env.close bE } a w:=by
 refine⟨Env.et.close h.sorted bE,h.size,h.defers,λt e he=>?_,h.heap,h.fI,h.own,h.hf,h.ga⟩;obtain⟨c,f⟩:=Env.amE h.sorted he;have:=h.env t e c;cases e with
 |v x=>exact this|b cs=>exact this|a u off=>exact absurd rfl (f u off)
theorem Rel.strip(h:Rel P gl N g s a w){x e sz:Nat}{xs:List AV}(ah:s.env.get x=some (.v (.list (some e) sz xs))) :
  s.put x (.list none sz xs)=some { s with env:=s.env.ins x (.v (.list none sz xs)) }/\Rel P gl N g { s with env:=s.env.ins x (.v (.list none sz xs)) } a w:=by
 refine⟨by simp[au.put,e9,ah],Env.et.ins h.sorted x _,h.size,h.defers,λt y he=>?_,h.heap,h.fI,h.own,h.hf,h.ga⟩;simp only at he ⊢;rw[Env.hW]at he;split at he
 ·rename_i i;subst i;simp at he;subst he;obtain⟨v,j,k,l⟩:=h.env t _ ah;exact⟨v,j,k.a1,cY.gG (cY.none _ _)⟩
 ·rename_i i;have c:=h.env t y he;cases y with
  |v y=>exact c|b cs=>exact c|a u off =>
   obtain⟨⟨cs,f⟩,p⟩:=c;refine⟨⟨cs,?_⟩,p⟩;rw[Env.hW];have:u≠x:=by rintro rfl;rw[ah]at f;simp at f
   simp[this,f]
end
def Bn:Value->AV->Bool
 |.int k n,.int k' n'=>decide (k=k')&&n==n'|.bool b,.bool b5=>b==b5|.string s,.str l=>s.data.toList==l&&decide (l.length<=16384)|.pointer none,.fl=>true|.slice none 0 0,.list none _ []=>true|.map none,.ha=>true|.nilFunc,.k4=>true|.slice none 0 0,.aS _=>true|.nilIface,.k5=>true|_,_=>false
def const:Value->AV->Bool
 |.agg vs,.agg xs=>vs.size==xs.length&&(vs.toList.zip xs).all λ(v,x)=>Bn v x|v,x=>Bn v x
def dJ:Operand->aL->Bool
 |.tmp t,.t n=>t==n|.const v,.c x=>const v x|.func f,.f n=>f==n|.global n,.g m=>n==m|_,_=>false
def cZ(N:Nat)(o:Oper)(d:Nat):Bool:=o.dst==some d&&decide (d<N)
def jX(xs:List Operand)(ys:List aL):Bool:=xs.length==ys.length&&(xs.zip ys).all λ(x,y)=>dJ x y
def ko(P:Program)(e sz:Nat):Bool :=
 match P.info? e with
 |some i=>i.size==sz&&decide (0<sz)&&(match i.zero with|some z=>z.cells.size==sz|none=>false)&&decide (i.bytes<=128)|none=>false
theorem LS{α β:Type}{p:α×β->Bool}:∀{xs:List α}{ys:List β},xs.length=ys.length->(xs.zip ys).all p=true->∀(i:Nat)x y,xs[i]?=some x->ys[i]?=some y->p (x,y)=true
 |[],_,_,_,i,x,y,ah,_=>by simp at ah|x::xs,[],h,_,_,_,_,_,_=>by simp at h|x::xs,y::ys,h,aG,i,a,b,ah,c=>by
  simp only[List.zip_cons_cons,List.all_cons,aKB]at aG;cases i with
  |zero=>simp at ah c;subst ah c;exact aG.1|succ i=>exact LS f8 aG.2 i a b nf iF
section
variable {γ:fA}
theorem LU(h:Bn v x=true):dr γ x v/\v.oneCell'=true:=by
 unfold Bn at h;split at h
 ·simp at h;obtain⟨rfl,rfl⟩:=h;exact⟨.int _ _,rfl⟩
 ·simp at h;subst h;exact⟨.bool _,rfl⟩
 ·rename_i s l;simp only[aKB,beq_iff_eq,decide_eq_true_eq]at h;obtain⟨c,d⟩:=h;refine⟨?_,rfl⟩;have:Value.string s=.string ⟨l.toArray⟩:=by rw[<-c]
  rw[this];exact .str l (by unfold M;omega)
 ·exact⟨.fl,rfl⟩
 ·exact⟨.kn _ _ _ be,rfl⟩
 ·exact⟨.ha,rfl⟩
 ·exact⟨.k4,rfl⟩
 ·exact⟨.aS _,rfl⟩
 ·exact⟨.k5,rfl⟩
 ·cases h
theorem amI{ws:List Value}:∀{cs:List AV},ws.length=cs.length->(∀(i:Nat)w c,ws[i]?=some w->cs[i]?=some c->dr γ c w/\w.oneCell'=true)->fX γ cs ws:=by
 induction ws with
 |nil=>intro cs h _;cases cs with|nil=>exact .nil|cons=>simp at h
 |cons w ws ih =>
  intro cs h d;cases cs with
  |nil=>simp at h|cons c cs =>
   have e:=d 0 w c be be;exact .cons _ _ _ _ e.2 e.1 (ih f8 λi w c f j=>d (i+1) w c nq (by simpa using j))
theorem LV(h:const v x=true):dr γ x v:=by
 unfold const at h;split at h
 ·rename_i vs xs;simp only[aKB,beq_iff_eq]at h;obtain⟨d,e⟩:=h;have:vs=vs.toList.toArray:=by simp
  rw[this];exact .agg _ _ (amI mQ λi w c f j=>LU (LS mQ e i w c f j))
 ·exact(LU h).1
end
section
variable {P:Program}{gl:cQ}{N:Nat}{g:bD}{s s':au}{a:Act}{w:World}{o:Oper}
variable {x:aL}
theorem dk(h:Rel P gl N g s a w){y:Operand}{u:AV}(c:dJ y x=true)(he:br gl s.env x=some u):bn g u (a.eval y):=by
 unfold dJ at c;split at c
 ·rename_i t n;simp at c;subst c;simp only[br]at he;split at he
  ·rename_i x ah;simp at he;subst he;obtain⟨v,d,e,_⟩:=h.env _ _ ah;simp[Act.eval,d,e]
  ·cases he
 ·simp only[br]at he;simp at he;subst he;exact .pure _ _ (LV c)
 ·simp at c;subst c;simp only[br]at he;simp at he;subst he;exact .fn _ _ _ .nil
 ·simp at c;subst c;simp only[br]at he;exact .pure _ _ (h.hf _ _ he)
 ·cases c
theorem vF(h:Rel P gl N g s a w):∀{ys:List Operand}{xs:List aL}{us:List AV},jX ys xs=true->e8 gl s.env xs=some us->cS g us (ys.map a.eval):=by
 intro ys;induction ys with
 |nil =>
  intro xs us c he;cases xs with
  |nil=>simp[e8]at he;subst he;exact .nil|cons=>simp[jX]at c
 |cons y ys ih =>
  intro xs us c he;cases xs with
  |nil=>simp[jX]at c|cons x xs =>
   simp only[jX,List.length_cons,List.zip_cons_cons,List.all_cons,aKB,beq_iff_eq]at c;simp only[e8]at he;split at he
   ·rename_i v vs d e;simp at he;subst he;exact .cons _ _ _ _ (dk h c.2.1 d) (ih (by simp[jX,c.2.2];omega) e)
   ·cases he
def eu(P:Program)(gl:cQ)(N:Nat)(o:Oper)(g:bD)(a:Act)(w:World)(s':au):Prop :=
 ∃v w' g',((execOp a.eval o).run P w=.ok (.value v) w'\/((execOp a.eval o).run P w=.ok .skip w'/\v=undef))/\eL g w g' w'/\Rel P gl N g' s' (a.put o.dst v) w'
variable {d:Nat}{x:AV}
theorem eu.value(h:Rel P gl N g s a w)(hd:cZ N o d=true)(ar:s.put d x=some s')(c:(execOp a.eval o).run P w=.ok (.value v) w)
  (e:bn g x v)(aE:cY x):eu P gl N o g a w s':=by
 simp only[cZ,aKB,beq_iff_eq,decide_eq_true_eq]at hd;refine⟨v,w,g,.inl c,eL.refl _ _,?_⟩;rw[hd.1];exact h.put ar hd.2 e aE.gG
theorem bind_some{α β:Type}{x:Option α}{f:α->Option β}{b:β}(h:x.bind f=some b):∃a,x=some a/\f a=some b:=by
 cases x with
 |none=>cases h|some a=>exact⟨a,rfl,h⟩
def Bo(N:Nat)(o:Oper)(d:Nat)(x:aL):Bool:=cZ N o d&&(match o.op with|.move y|.assign y=>dJ y x|_=>false)
variable {x:aL}
theorem Ux(c:Bo N o d x=true):cZ N o d=true/\∃y,dJ y x=true/\(execOp a.eval o).run P w=.ok (.value (a.eval y)) w:=by
 simp only[Bo,aKB]at c;obtain⟨hd,c⟩:=c;refine⟨hd,?_⟩;split at c
 ·rename_i y e;exact⟨y,c,by simp[execOp,e]⟩
 ·rename_i y e;exact⟨y,c,by simp[execOp,e]⟩
 ·cases c
theorem amJ(h:Rel P gl N g s a w)(c:Bo N o d x=true)(he:aJ gl s (.hV d x)=some s'):eu P gl N o g a w s':=by
 obtain⟨hd,y,e,f⟩:=Ux (P:=P) (a:=a) (w:=w) c;obtain⟨u,i,j⟩:=bind_some he;exact .value h hd j f (dk h e i).a1 (cY.a1 u)
theorem Rel.pass(h:Rel P gl N g s a w)(x y:eW)(ah:lu s x)(i:x≠.outer)(ae:g.bO b=x)(f:x≠.none) :
  eL g w { g with bO:=λk=>if k=b then y else g.bO k } w/\Rel P gl N { g with bO:=λk=>if k=b then y else g.bO k } s a w:=by
 have c:GhLe g { g with bO:=λk=>if k=b then y else g.bO k }:=⟨λ_ _ _ h=>h,λ_ _ h=>h⟩;refine⟨⟨c,λk hk=>⟨?_,rfl,λ_=>rfl⟩,Nat.le_refl _,rfl,rfl⟩,?_⟩
 ·grind
 ·refine h.step x ah c (λk hk=>⟨?_,rfl,λ_=>rfl⟩) h.fI (λk hk=>?_) h.ga
  ·grind
  ·by_cases e:k=b
   ·subst e;exact h.own _ (by rw[ae];exact f)
   ·simp[e]at hk;exact h.own _ hk
variable {l2 jx:eW}
theorem fC.pass{x:AV}(h:fC P g w l2 x v)(b:Nat)(ae:v.ownBlock=some b) :
  fC P { g with bO:=λk=>if k=b then jx else g.bO k } w jx x v:=by
 intro e sz xs ah;obtain⟨i,z,vs,c,f,j,l,m,p,q,r,t⟩:=h e sz xs ah;refine⟨i,z,vs,c,f,j,l,m,p,q,r,λk hk=>?_⟩;rw[ae]at hk;simp at hk;subst hk;exact⟨be,(t b ae).2⟩
theorem fC.free{x:AV}(h:fC P g w l2 x v)(ae:v.ownBlock=none):fC P g w jx x v:=by
 intro e sz xs ah;obtain⟨i,z,vs,c,f,j,l,m,p,q,r,t⟩:=h e sz xs ah;exact⟨i,z,vs,c,f,j,l,m,p,q,r,λk hk=>by rw[ae]at hk;cases hk⟩
theorem Rel.Bp(h:Rel P gl N g s a w){x:eW}(ah:lu s x)(k:x≠.outer)(l:x≠.none){y:AV}(hd:d<N)(ar:s.put d y=some s')
  (j:bn g y v)(aE:fC P g w x y v)(f:∃e sz xs,y=.list (some e) sz xs):∃g',eL g w g' w/\Rel P gl N g' s' (a.put (some d) v) w:=by
 cases ae:v.ownBlock with
 |none=>exact⟨g,eL.refl _ _,h.put ar hd j (aE.free ae)⟩|some b =>
  obtain⟨e,sz,xs,f⟩:=f;obtain⟨i,z,vs,q,r,t,u,A,B,C,D,m⟩:=aE e sz xs f;obtain⟨c,p⟩:=h.pass x (.var d) ah k (m b ae).1 l;exact⟨_,c,p.put ar hd (j.mono c.toGhLe) (aE.pass b ae)⟩
theorem amK{x:Nat}(h:Rel P gl N g s a w)(m:Bo N o d (.t x)=true)(he:aJ gl s (.p9 d x)=some s'):eu P gl N o g a w s':=by
 obtain⟨hd,y,f,k⟩:=Ux (P:=P) (a:=a) (w:=w) m;have p:y=.tmp x:=by
  unfold dJ at f;split at f<;>simp_all
 subst p;simp only[aJ]at he;have i:=hd;simp only[cZ,aKB,beq_iff_eq,decide_eq_true_eq]at i;split at he
 ·rename_i e sz xs ah;split at he
  ·cases he
  ·rename_i cG;obtain⟨H,c,q⟩:=bind_some he;obtain⟨r,u⟩:=h.strip ah;rw[r]at c;simp at c;subst c;obtain⟨v,A,B,C⟩:=h.env _ _ ah;have D:lu { s with env:=s.env.ins x (.v (.list none sz xs)) } (.var x) :=
    ⟨λt z l j=>by simp at l;subst l;simp only[Env.hW]at j;simp at j;subst j;exact cY.none _ _,be,be,be,be,be⟩
   obtain⟨g',E,F⟩:=u.Bp D be be i.2 q B C ⟨e,sz,xs,rfl⟩;refine⟨v,w,g',.inl ?_,E,?_⟩
   ·rw[k];simp[Act.eval,A]
   ·rw[i.1];exact F
 ·rename_i v ah G;have c:br gl s.env (.t x)=some v:=by simp[br,G]
  exact .value h hd he k (dk h f c).a1 (cY.a1 v)
 ·cases he
def LX(P:Program)(N:Nat)(o:Oper)(d e sz:Nat):Bool:=cZ N o d&&ko P e sz&&(match o.op with|.move (.const (.slice none 0 0))|.assign (.const (.slice none 0 0))=>true|_=>false)
variable {e sz:Nat}
theorem D1(h:ko P e sz=true)(g:bD)(w:World)(o:eW):fC P g w o (.list (some e) sz []) (.slice none 0 0):=by
 intro m p xs ah;simp at ah;obtain⟨rfl,rfl,rfl⟩:=ah;unfold ko at h;split at h
 ·rename_i i al;simp only[aKB,beq_iff_eq,decide_eq_true_eq]at h;obtain⟨⟨⟨f,j⟩,c⟩,k⟩:=h;split at c
  ·rename_i z l;simp at c;exact⟨i,z,[],al,f,j,l,c,k,be,World.ownsRow_nil _ _ _ _,λb ae=>by simp[Value.ownBlock]at ae⟩
  ·cases c
 ·cases h
theorem amL(h:Rel P gl N g s a w)(f:LX P N o d e sz=true)(he:aJ gl s (.sZ d e sz)=some s'):eu P gl N o g a w s':=by
 simp only[LX,aKB]at f;obtain⟨⟨hd,hk⟩,i⟩:=f;have j:(execOp a.eval o).run P w=.ok (.value (.slice none 0 0)) w:=by
  split at i
  ·rename_i c;simp[execOp,c,Act.eval]
  ·rename_i c;simp[execOp,c,Act.eval]
  ·cases i
 simp only[cZ,aKB,beq_iff_eq,decide_eq_true_eq]at hd;refine⟨_,w,g,.inl j,eL.refl _ _,?_⟩;rw[hd.1];exact h.put he hd.2 (.own _ _ _ _ (.kn _ _ _ be)) (D1 hk _ _ _)
def LY(N:Nat)(o:Oper)(d:Nat)(c x y:aL):Bool:=cZ N o d&&(match o.op with|.pick iP bK hy=>dJ iP c&&dJ bK x&&dJ hy y|_=>false)
theorem bn.oO{b:Bool}(h:bn g (.bool b) v):v=.bool b:=by
 cases h with|pure _ _ h=>cases h;rfl
variable {k:IntKind}
theorem bn.kp{n:Int}(h:bn g (.int k n) v):v=.int k n:=by
 cases h with|pure _ _ h=>cases h;rfl
theorem bn.mG{l:List UInt8}(h:bn g (.str l) v):v=.string ⟨l.toArray⟩/\l.length<=M:=by
 cases h with|pure _ _ h=>cases h;simp_all
theorem amM{c y:aL}(h:Rel P gl N g s a w)(m:LY N o d c x y=true)(he:aJ gl s (.pick d c x y)=some s'):eu P gl N o g a w s':=by
 simp only[LY,aKB]at m;obtain⟨hd,f⟩:=m;split at f
 ·rename_i A B C aE;simp only[aKB]at f;obtain⟨⟨p,q⟩,r⟩:=f;simp only[aJ]at he;split at he
  ·rename_i t z;have ae:=(dk h p z).oO;split at he
   ·rename_i i;subst i;obtain⟨u,j,l⟩:=bind_some he;exact .value h hd l (by simp[execOp,aE,ae,asBool]) (dk h q j).a1 (cY.a1 u)
   ·rename_i i;simp at i;subst i;obtain⟨u,j,l⟩:=bind_some he;exact .value h hd l (by simp[execOp,aE,ae,asBool]) (dk h r j).a1 (cY.a1 u)
  ·cases he
 ·cases f
def LZ(N:Nat)(o:Oper)(d:Nat)(x:aL):Bool:=cZ N o d&&(match o.op with|.unOp .not _ bK=>dJ bK x|_=>false)
theorem amN(h:Rel P gl N g s a w)(f:LZ N o d x=true)(he:aJ gl s (.qa d x)=some s'):eu P gl N o g a w s':=by
 simp only[LZ,aKB]at f;obtain⟨hd,c⟩:=f;split at c
 ·rename_i j aE;simp only[aJ]at he;split at he
  ·rename_i b ae;have i:=(dk h c ae).oO;exact .value h hd he (by simp[execOp,aE,i,Op.unary]) (.pure _ _ (.bool _)) (λ_ _ _ h=>f9)
  ·cases he
 ·cases c
def L0(N:Nat)(o:Oper)(d:Nat)(x:aL):Bool:=cZ N o d&&(match o.op with|.unOp .neg _ bK=>dJ bK x|_=>false)
theorem amO(h:Rel P gl N g s a w)(f:L0 N o d x=true)(he:aJ gl s (.neg d x)=some s'):eu P gl N o g a w s':=by
 simp only[L0,aKB]at f;obtain⟨hd,c⟩:=f;split at c
 ·rename_i j aE;simp only[aJ]at he;split at he
  ·rename_i k n ae;have i:=(dk h c ae).kp;exact .value h hd he (by simp[execOp,aE,i,Op.unary,Op.intArith]) (.pure _ _ (.int _ _)) (λ_ _ _ h=>f9)
  ·cases he
 ·cases c
def L1(P:Program)(N:Nat)(o:Oper)(d:Nat)(k:IntKind)(x:aL):Bool:=cZ N o d &&
 (match o.op with|.convert Bq Br bK=>dJ bK x&&(P.underlying Bq).isSome&&(match P.underlying Br with|some (.int k')=>decide (k'=k)|_=>false)|_=>false)
theorem amP(h:Rel P gl N g s a w)(j:L1 P N o d k x=true)(he:aJ gl s (.conv d k x)=some s'):eu P gl N o g a w s':=by
 simp only[L1,aKB]at j;obtain⟨hd,c⟩:=j;split at c
 ·rename_i m p q aE;simp only[aKB]at c;obtain⟨⟨ah,ax⟩,f⟩:=c;split at f
  ·rename_i r hk;simp at f;subst f;simp only[aJ]at he;split at he
   ·rename_i k n ae;have l:=(dk h ah ae).kp;obtain⟨hz,i⟩:=aKG.1 ax;exact .value h hd he (by simp[execOp,aE,l,convert,run_underlying i,run_underlying hk,Conv.intToInt]) (.pure _ _ (.int _ _)) (λ_ _ _ h=>f9)
   ·cases he
  ·cases f
 ·cases c
end
section
variable {P:Program}{gl:cQ}{N:Nat}{g:bD}{s s':au}{a:Act}{w:World}{o:Oper}
theorem toList_mk(l:List UInt8):(ByteArray.mk l.toArray).toList=l:=by rw[ByteArray.toList_eq]
def D2(P:Program)(t:TypeId):Nat:=match P.underlying t with|some (.int _)=>0|some .string=>1|some .bool=>2|_=>3
def Bs(P:Program):Nat->List Nat->List Field->Bool
 |_,[],[]=>true|i,k::ks,f::dC=>f.name != "_"&&f.offset==i&&decide (D2 P f.type=k)&&decide (k<3)&&Bs P (i+1) ks dC|_,_,_=>false
def Uz(P:Program)(t:TypeId)(ks:List Nat):Bool :=
 match P.underlying t with
 |some (.struct dC)=>!P.stoodInHeld t&&!P.eqGuardType P.depth t&&Bs P 0 ks dC.toList|_=>false
def HD(P:Program)(m:Nat)(t:TypeId):Bool :=
 match m with
 |0=>true|2=>match P.underlying t with|some (.pointer _)=>true|_=>false
 |3=>match P.underlying t with|some .bool=>true|_=>false
 |4=>match P.underlying t with|some (.pointer e)=>(P.info? e).isSome|_=>false
 |_=>false
def L2(P:Program)(N:Nat)(o:Oper)(d m:Nat)(op:BinOp)(x y:aL):Bool:=cZ N o d &&
 (match o.op with|.binOp xJ t bK hy _=>decide (xJ=op)&&dJ bK x&&dJ hy y&&HD P m t|_=>false)
theorem pH(b:Bool):cY (.bool b):=λ_ _ _ h=>by simp at h
theorem pt(k:IntKind)(n:Int):cY (.int k n):=λ_ _ _ h=>by simp at h
theorem zp(l:List UInt8):cY (.str l):=λ_ _ _ h=>by simp at h
variable {op:BinOp}{u:AV}
theorem amR{k k':IntKind}(d:k=k'\/op=.shl\/op=.shr){x y:Int}(he:Hu op k x y=some u)(t:TypeId)(xo yo:Operand) :
  ∃v,(do eqGuard op t xo yo (.int k x) (.int k' y);binOp op t (.int k x) (.int k' y):Sem Value).run P w=.ok v w/\dr g.γ u v/\cY u:=by
 have e:(eqGuard op t xo yo (.int k x) (.int k' y)).run P w=.ok () w:=by cases op<;>simp[eqGuard]
 unfold Hu at he;cases op<;>simp at he
 case shr =>
  simp only[Bl,Option.ite_none_right_eq_some,Option.some.injEq]at he;obtain⟨c,he⟩:=he;subst he;exact⟨_,by simp only[Sem.run_bind,e,Result.andThen_ok,binOp,Op.shift,Int.not_lt.2 c,if_false,Sem.run_pure,Int.fdiv_eq_ediv_of_nonneg _ (Int.le_of_lt (Int.pow_pos (show(0:Int)<2 by decide)))],.int _ _,pt _ _⟩
 case shl =>
  simp only[Bl,Option.ite_none_right_eq_some,Option.some.injEq]at he;obtain⟨c,he⟩:=he;subst he;exact⟨_,by simp only[Sem.run_bind,e,Result.andThen_ok,binOp,Op.shift,Int.not_lt.2 c,if_false,Sem.run_pure],.int _ _,pt _ _⟩
 all_goals (rcases d with d|d|d<;>first|(cases d;done)|subst d)
 case quo =>
  obtain⟨c,he⟩:=he;subst he;exact⟨_,by simp[e,binOp,Op.intDiv,c],.int _ _,pt _ _⟩
 case rem =>
  obtain⟨c,he⟩:=he;subst he;exact⟨_,by simp[e,binOp,Op.intDiv,c],.int _ _,pt _ _⟩
 all_goals
  subst he;simp only[Sem.run_bind,e,Result.andThen_ok,binOp,ne_eq,not_true_eq_false,if_false,Op.intArith,Op.intCmp,Op.intBits,Sem.run_pure];first
   |exact⟨_,rfl,.int _ _,pt _ _⟩|exact⟨_,rfl,.bool _,pH _⟩
theorem amS{x y:List UInt8}(he:Hv op x y=some u)(t:TypeId)(xo yo:Operand) :
  ∃v,(do eqGuard op t xo yo (.string ⟨x.toArray⟩) (.string ⟨y.toArray⟩);binOp op t (.string ⟨x.toArray⟩) (.string ⟨y.toArray⟩):Sem Value).run P w=.ok v w/\dr g.γ u v/\cY u:=by
 have c:(eqGuard op t xo yo (.string ⟨x.toArray⟩) (.string ⟨y.toArray⟩)).run P w=.ok () w:=by cases op<;>simp[eqGuard]
 unfold Hv at he;cases op<;>simp at he
 case add =>
  obtain⟨d,he⟩:=he;subst he;refine⟨.string ⟨(x++y).toArray⟩,?_,.str _ mQ,zp _⟩;have e:(ByteArray.mk x.toArray).size+(ByteArray.mk y.toArray).size<=9223372036854775807:=by
   have:(ByteArray.mk x.toArray).size=x.length:=by simp[ByteArray.size]
   have:(ByteArray.mk y.toArray).size=y.length:=by simp[ByteArray.size]
   unfold M at d;omega
  have f:(ByteArray.mk x.toArray++ByteArray.mk y.toArray)=ByteArray.mk (x++y).toArray:=by
   apply ByteArray.ext;simp
  simp only[Sem.run_bind,c,Result.andThen_ok,binOp,run_string_add_sum w _ _ e,f]
 all_goals
  subst he;simp only[Sem.run_bind,c,Result.andThen_ok,binOp,Op.stringOp,Sem.run_pure,toList_mk,Bool.not_or];first
   |exact⟨_,rfl,.bool _,pH _⟩|exact⟨_,rfl,by simpa using dr.bool _,pH _⟩
variable {cs:List AV}
theorem bn.oP(h:bn g (.agg cs) v):∃ws,v=.agg ws.toArray/\cS g cs ws/\∀x∈ws,x.oneCell'=true:=by
 cases h with
 |pure _ _ h =>
  cases h with
  |agg _ ws h =>
   refine⟨ws,rfl,?_⟩;induction ws generalizing cs with
   |nil=>cases h;exact⟨.nil,be⟩|cons w ws ih =>
    cases h with
    |cons c cs _ _ h1 d e =>
     obtain⟨f,i⟩:=ih e;exact⟨.cons _ _ _ _ (.pure _ _ d) f,by simpa[h1]using i⟩
 |agg _ ws h h1=>exact⟨ws,rfl,h,h1⟩
theorem cS.get{ws:List Value}(h:cS g cs ws):ws.length=cs.length/\∀(i:Nat)c,cs[i]?=some c->∃v,ws[i]?=some v/\bn g c v:=by
 induction ws generalizing cs with
 |nil=>cases h;simp|cons w ws ih =>
  cases h with
  |cons c cs _ _ h1 d=>grind
theorem bn.tf{off:Nat}(h:bn g (.ptr id off) v):∃b,g.cg id=some b/\v=ptrTo b off:=by
 cases h with
 |ptr _ _ b h=>exact⟨b,h,rfl⟩|pure _ _ h=>cases h
theorem bn.D3(h:bn g .fl v):v=.pointer none:=by
 cases h with|pure _ _ h=>cases h;rfl
variable {t:TypeId}
theorem run_equal_bool(c:P.underlying t=some .bool)(x y:Bool):(Op.equal t (.bool x) (.bool y)).run P w=.ok (x==y) w :=
 run_equalIn_bool' w 9999 t x y c
variable {e:TypeId}
theorem amT(d:Nat)(c:P.underlying t=some (.pointer e))(b:Option Addr):(Op.equalIn (d+1) t (.pointer none) (.pointer b)).run P w=.ok b.isNone w:=by
 simp[Op.equalIn,run_underlying c]
theorem amU(d:Nat)(c:P.underlying t=some (.pointer e))(b:Addr):(Op.equalIn (d+1) t (.pointer (some b)) (.pointer none)).run P w=.ok false w:=by
 simp[Op.equalIn,run_underlying c]
theorem amV(c:P.underlying t=some (.pointer e))(b:Option Addr):(Op.equal t (.pointer none) (.pointer b)).run P w=.ok b.isNone w :=
 amT 9999 c b
theorem amW(c:P.underlying t=some (.pointer e))(b:Addr):(Op.equal t (.pointer (some b)) (.pointer none)).run P w=.ok false w :=
 amU 9999 c b
variable {y:Value}{xo yo:Operand}{r:Bool}
theorem D4{x:Value}(c:(eqGuard .eql t xo yo x y).run P w=.ok () w)
  (ae:binOp .eql t x y=Value.bool <$> Op.equal t x y)(he:(Op.equal t x y).run P w=.ok r w) :
  (do eqGuard .eql t xo yo x y;binOp .eql t x y:Sem Value).run P w=.ok (.bool r) w:=by
 rw[Sem.run_bind,c,Result.andThen_ok,ae,Sem.run_map,he];rfl
theorem D5{x:Value}(c:(eqGuard .neq t xo yo x y).run P w=.ok () w)
  (ae:binOp .neq t x y=(λa=>Value.bool !a) <$> Op.equal t x y)(he:(Op.equal t x y).run P w=.ok r w) :
  (do eqGuard .neq t xo yo x y;binOp .neq t x y:Sem Value).run P w=.ok (.bool (!r)) w:=by
 rw[Sem.run_bind,c,Result.andThen_ok,ae,Sem.run_map,he];rfl
theorem amX{c en:Bool}(d:P.underlying t=some .bool)(xo yo:Operand)
  (he:(match op with|.eql=>some (AV.bool (c==en))|.neq=>some (AV.bool (!(c==en)))|_=>none)=some u) :
  ∃v,(do eqGuard op t xo yo (.bool c) (.bool en);binOp op t (.bool c) (.bool en):Sem Value).run P w=.ok v w/\dr g.γ u v/\cY u:=by
 split at he
 ·simp at he;subst he;exact⟨_,D4 lw lb (run_equal_bool d c en),.bool _,pH _⟩
 ·simp at he;subst he;exact⟨_,D5 lw lb (run_equal_bool d c en),by simpa using dr.bool _,pH _⟩
 ·cases he
theorem L3{d c:Option Addr}(f:P.underlying t=some (.pointer e))(xo yo:Operand)
  (ar:(d=none/\r=c.isNone)\/(d.isSome/\c=none/\r=false))
  (he:(match op with|.eql=>some (AV.bool r)|.neq=>some (AV.bool (!r))|_=>none)=some u) :
  ∃v,(do eqGuard op t xo yo (.pointer d) (.pointer c);binOp op t (.pointer d) (.pointer c):Sem Value).run P w=.ok v w/\dr g.γ u v/\cY u:=by
 have h:(Op.equal t (.pointer d) (.pointer c)).run P w=.ok r w:=by
  rcases ar with⟨rfl,rfl⟩|⟨i,rfl,rfl⟩
  ·exact amV f c
  ·obtain⟨b,rfl⟩:=aKG.1 i;exact amW f b
 split at he
 ·simp at he;subst he;exact⟨_,D4 lw lb h,.bool _,pH _⟩
 ·simp at he;subst he;exact⟨_,D5 lw lb h,by simpa using dr.bool _,pH _⟩
 ·cases he
theorem amY(d:Nat)(c:P.underlying t=some (.pointer e))(he:(P.info? e).isSome=true)(b:Addr):(Op.equalIn (d+1) t (.pointer (some b)) (.pointer (some b))).run P w=.ok true w:=by
 obtain⟨i,al⟩:=aKG.1 he;have h:(sameAddr b b).run P w=.ok true w:=by simp[sameAddr]
 by_cases f:i.size=0
 ·simp[Op.equalIn,run_underlying c,Go.sizeOf,typeInfo,al,f]
 ·simp[Op.equalIn,run_underlying c,Go.sizeOf,typeInfo,al,f,h]
theorem UA(c:P.underlying t=some (.pointer e))(he:(P.info? e).isSome=true)(b:Addr):(Op.equal t (.pointer (some b)) (.pointer (some b))).run P w=.ok true w :=
 amY 9999 c he b
theorem amZ{p:Addr}(c:P.underlying t=some (.pointer e))(al:(P.info? e).isSome=true)(xo yo:Operand)
  (he:(match op with|.eql=>some (AV.bool true)|.neq=>some (AV.bool false)|_=>none)=some u) :
  ∃v,(do eqGuard op t xo yo (.pointer (some p)) (.pointer (some p));binOp op t (.pointer (some p)) (.pointer (some p)):Sem Value).run P w=.ok v w/\dr g.γ u v/\cY u:=by
 split at he
 ·simp at he;subst he;exact⟨_,D4 lw lb (UA c al p),.bool _,pH _⟩
 ·simp at he;subst he;exact⟨_,D5 lw lb (UA c al p),by simpa using dr.bool _,pH _⟩
 ·cases he
theorem UB(h:D2 P t<3){cs:Array Value}{i:Nat}{c:Value}(f:cs[i]?=some c):(part t cs i).run P w=.ok c w:=by
 unfold D2 at h;split at h
 ·rename_i k d;simp[part,isAgg,run_underlying d,f]
 ·rename_i d;simp[part,isAgg,run_underlying d,f]
 ·rename_i d;simp[part,isAgg,run_underlying d,f]
 ·omega
theorem am0{y:AV}{u:Value}(h:q7 x y=some r)(ah:bn g x u)(f:bn g y v)(c:nW x=D2 P t)(d:Nat) :
  (Op.equalIn (d+1) t u v).run P w=.ok r w:=by
 unfold q7 at h;unfold D2 at c;split at h
 ·simp at h;subst h;rw[ah.oO,f.oO];simp only[nW]at c;split at c<;>simp at c;simp_all[run_equalIn_bool']
 ·split at h
  ·rename_i k a j b hk;subst hk;simp at h;subst h;rw[ah.kp,f.kp];simp only[nW]at c;split at c<;>simp at c;simp_all[run_equalIn_int]
  ·cases h
 ·simp at h;subst h;rw[ah.mG.1,f.mG.1];simp only[nW]at c;split at c<;>simp at c;rename_i i;rw[run_equalIn_string w d t _ _ i,toList_mk,toList_mk]
 ·cases h
theorem am1(A B:Array Value)(d:Nat):∀(c:List Field)(ks:List Nat)(k:Nat)(xs ys:List AV)(us vs:List Value)(r:Bool),Bs P k ks c=true ->
  vA ks xs ys=some r->cS g xs us->cS g ys vs->(∀i,A[k+i]?=us[i]?)->(∀i,B[k+i]?=vs[i]?)->(Op.eqFields (d+1) A B c).run P w=.ok r w:=by
 intro c;induction c with
 |nil =>
  intro ks k xs ys us vs r h he _ _ _ _;cases ks with
  |cons=>simp[Bs]at h|nil =>
   cases xs<;>cases ys<;>simp[vA]at he;subst he;simp[Op.eqFields]
 |cons f c ih =>
  intro ks k xs ys us vs r h he ah p cE fN;cases ks with
  |nil=>simp[Bs]at h|cons kk ks =>
   simp only[Bs,aKB,bne_iff_ne,beq_iff_eq,decide_eq_true_eq]at h;obtain⟨⟨⟨⟨q,j⟩,S⟩,T⟩,z⟩:=h;cases xs with
   |nil=>simp[vA]at he|cons x xs=>cases ys with
    |nil=>simp[vA]at he|cons y ys =>
     simp only[vA]at he;split at he
     ·rename_i hk;split at he
      ·rename_i C D E F;simp at he;subst he;cases ah with
       |cons _ _ u us hu G=>cases p with
        |cons _ _ v vs H J =>
         have l:=cE 0;have m:=fN 0;simp only[Nat.add_zero,aKF]at l m;have L:(part f.type A f.offset).run P w=.ok u w:=by rw[j];exact UB am l
         have O:(part f.type B f.offset).run P w=.ok v w:=by rw[j];exact UB am m
         have Q:=am0 (P:=P) (w:=w) E hu H (t:=f.type) am d;have R:=ih ks (k+1) xs ys us vs D z F G J (λi=>by have:=cE (i+1);simpa[Nat.add_assoc,Nat.add_comm 1 i]using this)
          (λi=>by have:=fN (i+1);simpa[Nat.add_assoc,Nat.add_comm 1 i]using this)
         simp only[Op.eqFields,q,ne_eq,not_false_eq_true,if_true,Sem.run_bind,L,Result.andThen_ok,O,Q];cases C
         ·simp
         ·simp[R]
      ·cases he
     ·cases he
def L4(P:Program)(N:Nat)(o:Oper)(d:Nat)(ne:Bool)(ks:List Nat)(x y:aL):Bool:=cZ N o d &&
 (match o.op with|.binOp op t bK hy _=>decide (op=if ne=true then .neq else .eql)&&dJ bK x&&dJ hy y&&Uz P t ks|_=>false)
theorem run_eqGuard_agg{x y:Operand}{A B:Array Value}(h:P.eqGuardType P.depth t=false):(eqGuard op t x y (.agg A) (.agg B)).run P w=.ok () w:=by
 cases op<;>simp[eqGuard,run_program,h]
variable {d:Nat}
theorem am2{ne:Bool}{ks:List Nat}{x y:aL}(h:Rel P gl N g s a w)(j:L4 P N o d ne ks x y=true)(he:aJ gl s (.ur d ne ks x y)=some s'):eu P gl N o g a w s':=by
 simp only[L4,aKB]at j;obtain⟨hd,f⟩:=j;split at f
 ·rename_i O t Q R _ aE;simp only[aKB,decide_eq_true_eq]at f;obtain⟨⟨⟨i,ah⟩,C⟩,c⟩:=f;unfold Uz at c;split at c
  ·rename_i k l;simp only[aKB,Bool.not_eq_true']at c;obtain⟨⟨D,m⟩,E⟩:=c;simp only[aJ]at he;split at he
   ·rename_i xs F G H;obtain⟨r,ae,ar⟩:=bind_some he;obtain⟨p,q,J,_⟩:=(dk h ah G).oP;obtain⟨vs,z,L,_⟩:=(dk h C H).oP;have A:P.fieldsOf t=k:=by simp[Program.fieldsOf,l]
    have B:(Op.equal t (.agg p.toArray) (.agg vs.toArray)).run P w=.ok r w:=by
     show(Op.equalIn (9999+1) t _ _).run P w=_;rw[run_equalIn_struct w 9999 t _ _ (by rw[A];exact l) D,A];exact am1 _ _ 9998 k.toList ks 0 xs F p vs r E ae J L be be
    refine .value h hd ar (v:=.bool (if ne=true then !r else r)) ?_ (.pure _ _ (.bool _)) (pH _);cases ne with
    |false =>
     simp at i;subst i;simp only[execOp,aE,q,z];rw[Sem.run_bind,D4 (run_eqGuard_agg m) lb B];rfl
    |true =>
     simp at i;subst i;simp only[execOp,aE,q,z];rw[Sem.run_bind,D5 (run_eqGuard_agg m) lb B];rfl
   ·cases he
  ·cases c
 ·cases f
theorem am3{m:Nat}{x y:aL}(h:Rel P gl N g s a w)(F:L2 P N o d m op x y=true)(he:aJ gl s (.bin d m op x y)=some s'):eu P gl N o g a w s':=by
 simp only[L2,aKB]at F;obtain⟨hd,A⟩:=F;split at A
 ·rename_i p t f i _ aE;simp only[aKB,decide_eq_true_eq]at A;obtain⟨⟨⟨rfl,ah⟩,G⟩,j⟩:=A;simp only[aJ]at he;split at he
  ·rename_i V W H J;obtain⟨u,ae,ar⟩:=bind_some he;have k:=dk h ah H;have l:=dk h G J;suffices ∃v,(do eqGuard p t f i (a.eval f) (a.eval i);binOp p t (a.eval f) (a.eval i):Sem Value).run P w=.ok v w/\dr g.γ u v/\cY u by
    obtain⟨v,L,O,Q⟩:=this;exact .value h hd ar (by simp only[execOp,aE];rw[Sem.run_bind,L];rfl) (.pure _ _ O) Q
   have B:m=2->∃e,P.underlying t=some (.pointer e):=by
    rintro rfl;simp only[HD]at j;split at j
    ·rename_i e c;exact⟨e,c⟩
    ·cases j
   have C:m=4->∃e,P.underlying t=some (.pointer e)/\(P.info? e).isSome=true:=by
    rintro rfl;simp only[HD]at j;split at j
    ·rename_i e c;exact⟨e,c,j⟩
    ·cases j
   unfold Hw at ae;split at ae
   ·split at ae
    ·rename_i hk;obtain⟨_,hk⟩:=hk;rw[k.kp,l.kp];exact amR hk ae t f i
    ·cases ae
   ·split at ae
    ·rw[k.mG.1,l.mG.1];exact amS ae t f i
    ·cases ae
   ·rename_i X en;split at ae
    ·rename_i R;subst R;simp only[HD]at j;split at j
     ·rename_i c;rw[k.oO,l.oO];exact amX c f i ae
     ·cases j
    ·cases ae
   ·split at ae
    ·rename_i q;obtain⟨e,c⟩:=B q;rw[k.D3,l.D3];exact L3 (r:=true) c f i (.inl ⟨rfl,rfl⟩) (by cases p<;>simp_all)
    ·cases ae
   ·split at ae
    ·rename_i q;obtain⟨e,c⟩:=B q;obtain⟨b,_,z⟩:=l.tf;rw[k.D3,z];exact L3 (r:=false) c f i (.inl ⟨rfl,rfl⟩) (by cases p<;>simp_all)
    ·cases ae
   ·split at ae
    ·rename_i D;obtain⟨D,rfl,rfl⟩:=D;obtain⟨e,c,al⟩:=C D;obtain⟨b,S,z⟩:=k.tf;obtain⟨Y,E,T⟩:=l.tf;rw[S]at E;simp at E;subst E;rw[z,T];exact amZ c al f i ae
    ·cases ae
   ·split at ae
    ·rename_i q;obtain⟨e,c⟩:=B q;obtain⟨b,_,z⟩:=k.tf;rw[l.D3,z];exact L3 (r:=false) c f i (.inr ⟨rfl,rfl,rfl⟩) (by cases p<;>simp_all)
    ·cases ae
   ·cases ae
  ·cases he
 ·cases A
end
section
variable {P:Program}{gl:cQ}{N:Nat}{g:bD}{s s':au}{a:Act}{w:World}{o:Oper}
theorem n0(b off j:Nat):(⟨b,off,none⟩:Addr).add j=⟨b,off+j,none⟩:=by unfold Addr.add;split<;>simp_all
variable {cs:List AV}
theorem bn.L7(h:bn g (.bg cs) v):∃ws,v=.tuple ws.toArray/\cS g cs ws:=by
 cases h with
 |pure _ _ h=>cases h|bg _ ws h=>exact⟨ws,rfl,h⟩
variable {own:Option Nat}{sz:Nat}{xs:List AV}
theorem bn.zq(h:bn g (.list own sz xs) v) :
  ∃base cap,v=.slice base xs.length cap/\(xs.length<=M/\xs.length<=cap)/\(xs=[]\/∃b off,base=some ⟨b,off,none⟩/\fa g.γ b off sz xs):=by
 have key:dr g.γ (.list none sz xs) v->∃base cap,v=.slice base xs.length cap/\(xs.length<=M/\xs.length<=cap)/\(xs=[]\/∃b off,base=some ⟨b,off,none⟩/\fa g.γ b off sz xs):=by
  intro h;cases h with
  |kn _ base cap _=>exact⟨base,cap,rfl,be,.inl rfl⟩|list b off cap _ _ h1 c d=>exact⟨_,cap,rfl,⟨h1,c⟩,.inr ⟨b,off,rfl,d⟩⟩
 cases h with
 |pure _ _ h =>
  cases own with
  |none=>exact key h|some e=>cases h
 |own _ _ _ _ h=>exact key h
theorem bn.UE(h:bn g (.cL cs) v):∃b off,v=ptrTo b off/\fB g.γ b off cs:=by
 cases h with
 |pure _ _ h=>cases h with|cL b off _ h=>exact⟨b,off,rfl,h⟩
theorem fa.get :∀{xs:List AV}{off:Nat},fa γ b off sz xs->∀(i:Nat)x,xs[i]?=some x->x.cells.length=sz/\fB γ b (off+i*sz) x.cells
 |[],_,_,i,x,ah=>by simp at ah|y::ys,off,.cons _ _ _ _ _ h1 f c,i,x,ah=>by
  cases i with
  |zero=>simp at ah;simp_all|succ i =>
   obtain⟨d,e⟩:=fa.get c i x nf;refine⟨d,?_⟩;have:off+(i+1)*sz=off+sz+i*sz:=by rw[Nat.add_mul];omega
   rw[this];exact e
theorem fa.drop :∀(n:Nat){xs:List AV}{off:Nat},fa γ b off sz xs->fa γ b (off+n*sz) sz (xs.drop n)
 |0,_,_,h=>by simpa using h|n+1,[],_,_=>by simpa using fa.nil _ _ _|n+1,y::ys,off,.cons _ _ _ _ _ h1 d c=>by
  have:=fa.drop n c;have e:off+(n+1)*sz=off+sz+n*sz:=by rw[Nat.add_mul];omega
  rw[e];simpa using this
theorem fa.take :∀(n:Nat){xs:List AV}{off:Nat},fa γ b off sz xs->fa γ b off sz (xs.take n)
 |0,_,_,_=>by simpa using fa.nil _ _ _|n+1,[],_,_=>by simp_all|n+1,y::ys,off,.cons _ _ _ _ _ h1 c d=>by simpa using fa.cons _ _ _ _ _ h1 c (fa.take n d)
theorem fB.drop :∀(n:Nat){xs:List AV}{off:Nat},fB γ b off xs->fB γ b (off+n) (xs.drop n)
 |0,_,_,h=>by simpa using h|n+1,[],_,_=>by simpa using fB.nil _ _|n+1,y::ys,off,.cons _ _ _ _ v h1 d f c=>by
  have:=fB.drop n c;have e:off+(n+1)=off+1+n:=by omega
  rw[e];simpa using this
theorem fB.take :∀(n:Nat){xs:List AV}{off:Nat},fB γ b off xs->fB γ b off (xs.take n)
 |0,_,_,_=>by simpa using fB.nil _ _|n+1,[],_,_=>by simpa using fB.nil _ _|n+1,y::ys,off,.cons _ _ _ _ v h1 c d e=>by simpa using fB.cons _ _ _ _ v h1 c d (fB.take n e)
def L8(N:Nat)(o:Oper)(d x i:Nat):Bool:=cZ N o d&&(match o.op with|.extract (.tmp t) j=>t==x&&j==i|_=>false)
variable {d:Nat}
theorem am5{x i:Nat}(h:Rel P gl N g s a w)(e:L8 N o d x i=true)(he:aJ gl s (.ext d x i)=some s'):eu P gl N o g a w s':=by
 simp only[L8,aKB]at e;obtain⟨hd,c⟩:=e;split at c
 ·rename_i t j aE;simp at c;obtain⟨rfl,rfl⟩:=c;simp only[aJ]at he;split at he
  ·rename_i vs f;obtain⟨u,k,l⟩:=bind_some he;obtain⟨v,m,p,_⟩:=h.env _ _ f;obtain⟨ws,rfl,q⟩:=p.L7;obtain⟨x,r,y⟩:=q.get.2 _ _ k;exact .value h hd l (v:=x) (by simp[execOp,aE,Act.eval,m,Instr.extract,r]) y.a1 (cY.a1 u)
  ·cases he
 ·cases c
def th(op:Op):Option (Builtin×List Operand×List TypeId) :=
 match op with
 |.call c=>match c.callee with
  |.builtin b=>some (b,c.args.toList,c.argTypes.toList)|_=>none
 |_=>none
theorem vI{op:Op}{b:Builtin}{xs:List Operand}{bE:List TypeId}(h:th op=some (b,xs,bE))(aE:o.op=op)(aJ:Operand->Value) :
  ∃f,execOp aJ o=builtin b bE.toArray o.type f (xs.map aJ).toArray:=by
 unfold th at h;split at h
 ·rename_i c;split at h
  ·rename_i j i;simp at h;obtain⟨rfl,rfl,rfl⟩:=h;have e:(List.map aJ c.args.toList).toArray=c.args.map aJ:=by apply Array.ext';simp
   simp only[execOp,aE,resolve,i,pure_bind,invoke,e,Array.toArray_toList];exact⟨_,rfl⟩
  ·cases h
 ·cases h
def zr(P:Program)(m:Nat)(t:TypeId):Bool:=match P.underlying t with|some .string=>m==0|some (.slice _)=>m==1|some (.map _ _)=>m==2|_=>false
variable {t:TypeId}
theorem am6(h:zr P 0 t=true):P.underlying t=some .string:=by unfold zr at h;split at h<;>simp_all
theorem HG(h:zr P 1 t=true):∃e,P.underlying t=some (.slice e):=by unfold zr at h;split at h<;>simp_all
theorem UF(h:zr P 2 t=true):∃k e,P.underlying t=some (.map k e):=by unfold zr at h;split at h<;>simp_all
theorem bn.L9(h:bn g .ha v):v=.map none:=by
 cases h with
 |pure _ _ h=>cases h;rfl
theorem bn.Ma(h:bn g (.hK sz) v):∃base cap,v=.slice (some base) 0 cap:=by
 cases h with
 |pure _ _ h=>cases h with|hK _ base cap=>simp
theorem bn.am7{cap:Nat}{base:Option Addr}(h:bn g (.list own sz xs) (.slice base n cap)):base=none->cap=0:=by
 cases h with
 |pure _ _ h=>cases h with
  |kn _ _ _ h=>exact h|list=>simp
 |own _ _ _ _ h=>cases h with
  |kn _ _ _ h=>exact h|list=>simp
theorem bn.uz(h:bn g (.aS sz) v):v=.slice none 0 0:=by
 cases h with
 |pure _ _ h=>cases h;rfl
theorem bn.vJ(h:bn g (.map id) v):∃b,g.cg id=some b/\v=.map (some b):=by
 cases h with
 |pure _ _ h=>cases h|map _ b ae=>exact⟨b,ae,rfl⟩
variable {off:Nat}
theorem bn.ti(h:bn g (.bI id off n sz) v):∃b k cap,g.cg id=some b/\g.cg (id+1)=some k/\off+cap*sz=k/\n<=cap/\v=.slice (some ⟨b,off,none⟩) n cap:=by
 cases h with
 |pure _ _ h=>cases h|bI _ _ _ _ b k cap h1 c e f=>exact⟨b,k,cap,h1,c,e,f,rfl⟩
theorem am8{o:Obj}(h:w.heap[b]?=some o)(aE:∀c e f,o≠.cells c e f):(getObj b).run P w=.ok o w:=by
 show(Sem.getObj b Sem.pure).run P w=.ok o w;simp only[Sem.run,h]
variable {ty:TypeId}
theorem am9(c:P.underlying t=some .string)(l:List UInt8):(Builtin.len_ #[t] ty #[.string ⟨l.toArray⟩]).run P w=.ok (.int .i64 l.length) w:=by
 have:(ByteArray.mk l.toArray).size=l.length:=by simp[ByteArray.size]
 simp only[Builtin.len_,aKH,aKF,Sem.run_bind,run_underlying c,Result.andThen_ok,Sem.run_pure,goInt,this]
theorem HH{e:TypeId}(c:P.underlying t=some (.slice e))(base:Option Addr)(n cap:Nat):(Builtin.len_ #[t] ty #[.slice base n cap]).run P w=.ok (.int .i64 n) w:=by
 simp only[Builtin.len_,aKH,aKF,Sem.run_bind,run_underlying c,Result.andThen_ok,Sem.run_pure,goInt]
def Mb(P:Program)(N:Nat)(o:Oper)(d m:Nat)(x:aL):Bool:=cZ N o d &&
 (match th o.op with|some (.len,[bK],[t])=>dJ bK x&&zr P m t|_=>false)
variable {x:aL}
theorem ana{m:Nat}(h:Rel P gl N g s a w)(u:Mb P N o d m x=true)(he:aJ gl s (.len d m x)=some s'):eu P gl N o g a w s':=by
 simp only[Mb,aKB]at u;obtain⟨hd,q⟩:=u;split at q
 ·rename_i D t aE;obtain⟨E,p⟩:=vI (o:=o) aE rfl a.eval;simp only[aKB]at q;obtain⟨ah,c⟩:=q;simp only[aJ]at he;split at he
  ·rename_i own sz xs f;split at he
   ·rename_i i;subst i;obtain⟨e,c⟩:=HG c;obtain⟨base,cap,j,_⟩:=(dk h ah f).zq;refine .value h hd he (v:=.int .i64 xs.length) ?_ (.pure _ _ (.int _ _)) (pt _ _);rw[p];simp only[builtin,aKD,aKE,j,Sem.run_bind,HH c,Result.andThen_ok,Sem.run_pure]
   ·cases he
  ·rename_i l f;split at he
   ·rename_i i;subst i;have c:=am6 c;have j:=(dk h ah f).mG.1;refine .value h hd he (v:=.int .i64 l.length) ?_ (.pure _ _ (.int _ _)) (pt _ _);rw[p];simp only[builtin,aKD,aKE,j,Sem.run_bind,am9 c,Result.andThen_ok,Sem.run_pure]
   ·cases he
  ·split at he
   ·rename_i f i;subst i;obtain⟨_,e,c⟩:=UF c;have j:=(dk h ah f).L9;refine .value h hd he (v:=.int .i64 0) ?_ (.pure _ _ (.int _ _)) (pt _ _);rw[p];simp only[builtin,aKD,aKE,j,Builtin.len_,aKH,aKF,Sem.run_bind,run_underlying c,Result.andThen_ok,Sem.run_pure,goInt]
   ·cases he
  ·split at he
   ·rename_i f i;subst i;obtain⟨e,c⟩:=HG c;have j:=(dk h ah f).uz;refine .value h hd he (v:=.int .i64 0) ?_ (.pure _ _ (.int _ _)) (pt _ _);rw[p];simp only[builtin,aKD,aKE,j,Sem.run_bind,HH c,Result.andThen_ok,Sem.run_pure];rfl
   ·cases he
  ·split at he
   ·rename_i f i;subst i;obtain⟨e,c⟩:=HG c;obtain⟨base,cap,j⟩:=(dk h ah f).Ma;refine .value h hd he (v:=.int .i64 0) ?_ (.pure _ _ (.int _ _)) (pt _ _);rw[p];simp only[builtin,aKD,aKE,j,Sem.run_bind,HH c,Result.andThen_ok,Sem.run_pure];rfl
   ·cases he
  ·split at he
   ·rename_i f i;subst i;obtain⟨e,c⟩:=HG c;obtain⟨b,k,cap,_,_,_,_,j⟩:=(dk h ah f).ti;refine .value h hd he (v:=.int .i64 _) ?_ (.pure _ _ (.int _ _)) (pt _ _);rw[p];simp only[builtin,aKD,aKE,j,Sem.run_bind,HH c,Result.andThen_ok,Sem.run_pure]
   ·cases he
  ·split at he
   ·rename_i f i;subst i;split at he
    ·rename_i n es y;obtain⟨_,e,c⟩:=UF c;obtain⟨b,ae,j⟩:=(dk h ah f).vJ;obtain⟨F,r,arr,z,G,⟨dd,A,B,H⟩,J⟩:=h.heap _ _ y;rw[ae]at r;simp at r;subst r;have C:arr.size=es.length:=by rw[<-A.length_eq,B];simp
     refine .value h hd he (v:=.int .i64 es.length) ?_ (.pure _ _ (.int _ _)) (pt _ _);rw[p];simp[builtin,j,Builtin.len_,run_underlying c,goInt,am8 z be,C]
    ·cases he
   ·cases he
  ·cases he
 ·cases q
def Bt(P:Program)(g:bD)(s:au)(a:Act)(w:World)(v:Value):l0->Prop
 |.eK t off=>∃b cs,s.env.get t=some (.b cs)/\a.tmps[t]?=some (ptrTo b 0)/\v=ptrTo b off/\jw P g w b (.eK t) (.fb t) cs|.ar id off=>∃b,g.cg id=some b/\v=ptrTo b off|.jV cs=>∃b off,v=ptrTo b off/\fB g.γ b off cs
variable {p:l0}
theorem sa(h:Rel P gl N g s a w){y:Operand}(k:dJ y x=true)(he:eQ gl s.env x=some p):Bt P g s a w (a.eval y) p:=by
 unfold eQ at he;split at he
 ·rename_i n;have l:y=.tmp n:=by unfold dJ at k;split at k<;>simp_all
  subst l;split at he
  ·rename_i cs c;simp at he;subst he;obtain⟨b,e,f⟩:=h.env _ _ c;exact⟨b,cs,c,e,by simp[Act.eval,e],f⟩
  ·rename_i t off c;simp at he;subst he;obtain⟨⟨cs,m⟩,b,e,f⟩:=h.env _ _ c;obtain⟨r,i,j⟩:=h.env _ _ m;rw[f]at i;simp[ptrTo]at i;subst i;exact⟨b,cs,m,f,by simp[Act.eval,e],j⟩
  ·rename_i id off c;simp at he;subst he;obtain⟨v,e,f,_⟩:=h.env _ _ c;obtain⟨b,i,j⟩:=f.tf;exact⟨b,i,by simp[Act.eval,e,j]⟩
  ·rename_i cs c;simp at he;subst he;obtain⟨v,e,f,_⟩:=h.env _ _ c;obtain⟨b,off,i,j⟩:=f.UE;exact⟨b,off,by simp[Act.eval,e,i],j⟩
  ·cases he
 ·rename_i n;have l:y=.global n:=by unfold dJ at k;split at k<;>simp_all
  subst l;split at he
  ·rename_i cs c;simp at he;subst he;have:=h.hf _ _ c;cases this with
   |cL b off _ q=>exact⟨n,0,rfl,q⟩
  ·cases he
 ·cases he
def Mc(g:bD)(w:World)(b off:Nat)(cs:List AV):Prop :=
 ∃ws:List Value,ws.length=cs.length/\cS g cs ws/\(∀v∈ws,v.oneCell'=true)/\∀j v,ws[j]?=some v->w.cell? ⟨b,off+j,none⟩=some v
variable {ws:List Value}
theorem cS.HI :∀{cs:List AV},ws.length=cs.length->(∀(i:Nat)c v,cs[i]?=some c->ws[i]?=some v->bn g c v)->cS g cs ws:=by
 induction ws with
 |nil=>intro cs h _;cases cs with|nil=>exact .nil|cons=>simp at h
 |cons w ws ih =>
  intro cs h e;cases cs with
  |nil=>simp at h|cons c cs=>exact .cons _ _ _ _ (e 0 c w be be) (ih f8 λi c v f j=>e (i+1) c v nq (by simpa using j))
theorem jw.cells{ow:eW}{oc:Nat->eW}(h:jw P g w b ow oc cs) :Mc g w b off ((cs.drop off).take n):=by
 obtain⟨arr,ty,q,A,B,C,r⟩:=h;generalize cf:arr.toList.take cs.length=L;have l:L.length=cs.length:=by rw[<-cf];simp;omega
 have m:∀(i:Nat)v,L[i]?=some v->arr[i]?=some v:=λi v e=>by
  rw[<-cf,List.getElem?_take]at e;split at e
  ·simpa using e
  ·cases e
 refine⟨(L.drop off).take n,by simp[l],.HI (by simp[l]) λi c v D e=>?_,λv e=>?_,λj v e=>?_⟩
 ·grind
 ·obtain⟨i,al,k⟩:=List.getElem_of_mem e;have f:((L.drop off).take n)[i]?=some v:=by rw[List.getElem?_eq_getElem al,k]
  rw[List.getElem?_take]at f;split at f
  ·rw[List.getElem?_drop]at f;have u:off+i<cs.length:=by grind
   obtain⟨E,y,z,_⟩:=r (off+i) cs[off+i] (by simp[u]);have f:=m _ _ f;rw[y]at f;simp at f;subst f;exact z
  ·cases f
 ·rw[List.getElem?_take]at e;split at e
  ·rw[List.getElem?_drop]at e;rw[cell_of_row w b _ arr ty (0,0) q];exact m _ _ e
  ·cases e
theorem fB.UG{g:bD}{w:World}(f:∀b off v,g.γ b off=some v->w.cell? ⟨b,off,none⟩=some v):∀{cs:List AV}{b off:Nat},fB g.γ b off cs->Mc g w b off cs
 |[],_,_,_=>⟨[],rfl,.nil,be,be⟩|c::cs,b,off,.cons _ _ _ _ v h1 h i k=>by
  obtain⟨ws,l,m,q,r⟩:=fB.UG f k;refine⟨v::ws,by simp[l],.cons _ _ _ _ (.pure _ _ i) m,by simpa[h]using q,λj u e=>?_⟩;cases j with
  |zero=>simp at e;subst e;exact f _ _ _ h1|succ j=>have:=r j u (by simpa using e);rw[<-this];congr 2;omega
theorem UH(h:Rel P gl N g s a w)(ar:Bt P g s a w v p)(c:bd s n p=some cs):∃b off,v=ptrTo b off/\Mc g w b off cs/\cs.length=n:=by
 cases p with
 |eK t off =>
  obtain⟨b,f,j,l,u,y⟩:=ar;simp only[bd,j]at c;split at c
  ·rename_i m;simp at c;subst c;exact⟨b,off,u,y.cells,d9⟩
  ·cases c
 |ar id off =>
  obtain⟨b,j,l⟩:=ar;simp only[bd]at c;split at c
  ·rename_i f q;obtain⟨z,i,r⟩:=h.heap _ _ q;rw[j]at i;simp at i;subst i;split at c
   ·rename_i m;simp at c;subst c;exact⟨b,off,l,r.cells,d9⟩
   ·cases c
  ·rename_i e f q;obtain⟨z,k,i,_,r,_⟩:=h.heap _ _ q;rw[j]at i;simp at i;subst i;split at c
   ·rename_i m;simp at c;subst c;exact⟨b,off,l,r.cells,d9⟩
   ·cases c
  ·cases c
 |jV f =>
  obtain⟨b,off,j,l⟩:=ar;simp only[bd]at c;split at c
  ·rename_i m;simp at c;subst c;exact⟨b,off,j,(l.take n).UG h.fI,d9⟩
  ·cases c
theorem cS.a1(h:cS g cs ws):cS g (cs.map AV.a1) ws:=by
 induction ws generalizing cs with
 |nil=>cases h;exact .nil|cons w ws ih=>cases h with|cons c cs _ _ h1 e=>exact .cons _ _ _ _ h1.a1 (ih e)
def xL(P:Program)(N:Nat)(o:Oper)(d:Nat)(x:aL)(n:Nat)(nB:Bool):Bool:=cZ N o d &&
 (match o.op with|.load t bK=>dJ bK x&&(match P.info? t with|some i=>i.size==n|none=>false) &&
  (match P.underlying t with|some (.struct _)|some (.array _ _)=>nB|some _=>!nB&&n==1|none=>false)|_=>false)
variable {pv:TypeDesc}
theorem HJ{i:TypeInfo}(al:P.info? t=some i)(h:P.underlying t=some pv)(k:ws.length=i.size)
  (l:∀j v,ws[j]?=some v->w.cell? ⟨b,off+j,none⟩=some v)(m:(∃c,pv=.struct c)\/∃n e,pv=.array n e):(Instr.loadAt t (ptrTo b off)).run P w=.ok (.agg ws.toArray) w:=by
 have f:=run_loadCells_list (P:=P) (w:=w) ⟨b,off,none⟩ ws (λj v q=>by rw[n0];exact l j v q);have r:(isAgg t).run P w=.ok true w:=by
  rcases m with⟨c,rfl⟩|⟨n,e,rfl⟩<;>simp[isAgg,run_underlying h]
 rw[k]at f;simp[Instr.loadAt,Instr.sureAddr,ptrTo,loadVar,r,Go.sizeOf,typeInfo,al,f]
theorem HK(f:P.underlying t=some pv)(c:(∀h,pv≠.struct h)/\∀n e,pv≠.array n e)
  (i:w.cell? ⟨b,off,none⟩=some v):(Instr.loadAt t (ptrTo b off)).run P w=.ok v w:=by
 have j:(isAgg t).run P w=.ok false w:=by
  cases pv<;>first|(simp[isAgg,run_underlying f];done)|exact absurd rfl (c.1 _)|exact absurd rfl (c.2 _ _)
 simp[Instr.loadAt,Instr.sureAddr,ptrTo,loadVar,j,i]
theorem anc{nB:Bool}(h:Rel P gl N g s a w)(z:xL P N o d x n nB=true)(he:aJ gl s (.ld d x n nB)=some s'):eu P gl N o g a w s':=by
 simp only[xL,aKB]at z;obtain⟨hd,k⟩:=z;split at k
 ·rename_i t Q aE;simp only[aKB]at k;obtain⟨⟨ah,l⟩,hk⟩:=k;split at l
  ·rename_i i al;simp at l;simp only[aJ]at he;obtain⟨p,C,he⟩:=bind_some he;obtain⟨cs,D,he⟩:=bind_some he;obtain⟨b,off,A,⟨ws,R,B,E,q⟩,S⟩:=UH h (sa h ah C) D;have r:nB=true->((execOp a.eval o).run P w=.ok (.value (.agg ws.toArray)) w):=by
    intro f;simp only[execOp,aE,Sem.run_bind,A];split at hk
    ·rename_i y j;rw[HJ al j am q (.inl ⟨y,rfl⟩)];rfl
    ·rename_i m e j;rw[HJ al j am q (.inr ⟨m,e,rfl⟩)];rfl
    ·simp[f]at hk
    ·cases hk
   split at he
   ·rename_i f;exact .value h hd he (r f) (.agg _ _ B.a1 E) (λ_ _ _ h=>f9)
   ·rename_i f;split at he
    ·rename_i c;cases B with
     |cons _ _ u us j F =>
      cases F;have G:=q 0 u be;refine .value h hd he (v:=u) ?_ j.a1 (cY.a1 c);simp only[execOp,aE,Sem.run_bind,A];split at hk
      ·simp[f]at hk
      ·simp[f]at hk
      ·rename_i pv H J L;rw[HK L ⟨λy e=>H y e,λn e O=>J n e O⟩ (by simpa using G)];rfl
      ·cases hk
    ·cases he
  ·cases l
 ·cases k
end
section
variable {P:Program}{gl:cQ}{N:Nat}{g:bD}{s s':au}{a:Act}{w:World}{o:Oper}
theorem D8(cs:List AV):cY (.cL cs):=λ_ _ _ h=>by simp at h
theorem vM(id off:Nat):cY (.ptr id off):=λ_ _ _ h=>by simp at h
def UI(P:Program)(t f off:Nat):Bool :=
 match P.underlying t with
 |some (.struct dC) =>
  match dC[f]? with
  |some fd=>fd.offset==off&&(match P.info? fd.type with|some i=>i.size != 0|none=>false)|none=>false
 |_=>false
def Md(P:Program)(N:Nat)(o:Oper)(d:Nat)(x:aL)(off:Nat):Bool:=cZ N o d &&
 (match o.op with|.fieldAddr t bK f=>dJ bK x&&UI P t f off|_=>false)
variable {t:TypeId}
theorem anf{d:Array Field}{f:Nat}{c:Field}{i:TypeInfo}(e:P.underlying t=some (.struct d))(h:d[f]?=some c)(al:P.info? c.type=some i)
  (j:i.size≠0)(b off:Nat):(Instr.fieldAt t (ptrTo b off) f).run P w=.ok (ptrTo b (off+c.offset)) w:=by
 simp only[Instr.fieldAt,Sem.run_bind,run_underlying e,Result.andThen_ok,h,Instr.sureAddr,ptrTo,fieldPlace,Go.sizeOf,typeInfo,run_program,al,Sem.run_pure,Sem.run_ite,j,if_false,n0]
variable {d off:Nat}
theorem eu.addr(h:Rel P gl N g s a w){u:Nat}{cs:List AV}(hd:cZ N o d=true)(c:e9 s.env d=true)(e:s.env.get u=some (.b cs))(ae:a.tmps[u]?=some (ptrTo b 0))
  (f:(execOp a.eval o).run P w=.ok (.value (ptrTo b off)) w):eu P gl N o g a w { s with env:=s.env.ins d (.a u off) }:=by
 simp only[cZ,aKB,beq_iff_eq,decide_eq_true_eq]at hd;refine⟨_,w,g,.inl f,eL.refl _ _,?_⟩;rw[hd.1];exact h.amG c hd.2 e ae
variable {x:aL}
theorem ang(h:Rel P gl N g s a w)(p:Md P N o d x off=true)(he:aJ gl s (.fz d x off)=some s'):eu P gl N o g a w s':=by
 simp only[Md,aKB]at p;obtain⟨hd,l⟩:=p;split at l
 ·rename_i t q f aE;simp only[aKB]at l;obtain⟨ah,hk⟩:=l;unfold UI at hk;split at hk
  ·rename_i B r;split at hk
   ·rename_i u y;simp only[aKB,beq_iff_eq]at hk;obtain⟨rfl,hk⟩:=hk;split at hk
    ·rename_i i al;simp at hk;have m:∀b c,a.eval q=ptrTo b c->(execOp a.eval o).run P w=.ok (.value (ptrTo b (c+u.offset))) w:=by
      intro b c e;simp only[execOp,aE,Sem.run_bind,e,anf r y al hk,Result.andThen_ok,Sem.run_pure]
     simp only[aJ]at he;split at he
     ·rename_i C c ar;obtain⟨b,cs,j,k,z,D⟩:=sa h ah ar;split at he
      ·rename_i A;simp at he;subst he;exact .addr h hd A j k (m _ _ z)
      ·cases he
     ·rename_i id c ar;obtain⟨b,j,k⟩:=sa h ah ar;exact .value h hd he (m _ _ k) (.ptr _ _ _ j) (vM _ _)
     ·rename_i cs ar;obtain⟨b,c,j,k⟩:=sa h ah ar;split at he
      ·exact .value h hd he (m _ _ j) (.pure _ _ (.cL _ _ _ (k.drop _))) (D8 _)
      ·cases he
     ·cases he
    ·cases hk
   ·cases hk
  ·cases hk
 ·cases l
def vN(P:Program)(t sz:Nat):Bool :=
 match P.underlying t with
 |some (.slice e)=>(match P.info? e with|some f=>f.size==sz|none=>false)|_=>false
def Me(P:Program)(N:Nat)(o:Oper)(d sz:Nat)(x i:aL):Bool:=cZ N o d &&
 (match o.op with|.indexAddr t bK oQ=>dJ bK x&&dJ oQ i&&vN P t sz|_=>false)
variable {n:Int}
theorem UJ{e:TypeId}{f:TypeInfo}(c:P.underlying t=some (.slice e))(al:P.info? e=some f)(b off len cap:Nat)(k:IntKind)(h:0<=n)(i:n<len) :
  (Instr.indexAt t (.slice (some ⟨b,off,none⟩) len cap) (.int k n)).run P w=.ok (ptrTo b (off+n.toNat*f.size)) w:=by
 simp[Instr.indexAt,asIntOf,run_underlying c,h,i,Go.sizeOf,typeInfo,al,n0,ptrTo]
variable {i:aL}
theorem anh{sz:Nat}(h:Rel P gl N g s a w)(B:Me P N o d sz x i=true)(he:aJ gl s (.lV d sz x i)=some s'):eu P gl N o g a w s':=by
 simp only[Me,aKB]at B;obtain⟨hd,c⟩:=B;split at c
 ·rename_i t J L aE;simp only[aKB]at c;obtain⟨⟨ah,al⟩,hk⟩:=c;unfold vN at hk;split at hk
  ·rename_i e C;split at hk
   ·rename_i f D;simp at hk;simp only[aJ]at he;split at he
    ·rename_i own j xs k n l p;split at he
     ·rename_i ae;obtain⟨rfl,q,r⟩:=ae;obtain⟨u,E,F⟩:=bind_some he;obtain⟨base,cap,y,O,z⟩:=(dk h ah l).zq;have A:=(dk h al p).kp;rcases z with rfl|⟨b,off,rfl,G⟩
      ·simp at E
      ·obtain⟨Q,H⟩:=G.get _ _ E;refine .value h hd F (v:=ptrTo b (off+n.toNat*j)) ?_ (.pure _ _ (.cL _ _ _ H)) (D8 _);simp only[execOp,aE,Sem.run_bind,y,A,UJ C D b off _ cap k q r,Result.andThen_ok,Sem.run_pure,hk]
     ·cases he
    ·rename_i id off m j k n l p;split at he
     ·rename_i ae;obtain⟨rfl,q,r⟩:=ae;obtain⟨b,R,cap,y,_,_,_,z⟩:=(dk h ah l).ti;have A:=(dk h al p).kp;refine .value h hd he (v:=ptrTo b (off+n.toNat*j)) ?_ (.ptr _ _ _ y) (λ_ _ _ h=>f9);simp only[execOp,aE,Sem.run_bind,z,A,UJ C D b off _ cap k q r,Result.andThen_ok,Sem.run_pure,hk]
     ·cases he
    ·cases he
   ·cases hk
  ·cases hk
 ·cases c
def Mf(P:Program)(N:Nat)(o:Oper)(d:Nat)(x i:aL):Bool:=cZ N o d &&
 (match o.op with|.index t bK oQ=>dJ bK x&&dJ oQ i&&(match P.underlying t with|some .string=>true|_=>false)|_=>false)
theorem ani(l:List UInt8)(n:Nat):(ByteArray.mk l.toArray)[n]?=l[n]?:=by
 by_cases h:n<l.length
 ·have c:n<(ByteArray.mk l.toArray).size:=by simpa[ByteArray.size]using h
  rw[getElem?_pos _ n c,List.getElem?_eq_getElem h];rfl
 ·have c:¬n<(ByteArray.mk l.toArray).size:=by simpa[ByteArray.size]using h
  rw[getElem?_neg _ n c,List.getElem?_eq_none am]
theorem anj(h:Rel P gl N g s a w)(e:Mf P N o d x i=true)(he:aJ gl s (.idx d x i)=some s'):eu P gl N o g a w s':=by
 simp only[Mf,aKB]at e;obtain⟨hd,c⟩:=e;split at c
 ·rename_i t A B aE;simp only[aKB]at c;obtain⟨⟨ah,al⟩,hk⟩:=c;split at hk
  ·rename_i f;simp only[aJ]at he;split at he
   ·rename_i l k n j m;split at he
    ·rename_i p;obtain⟨u,q,r⟩:=bind_some he;have y:=(dk h ah j).mG.1;have z:=(dk h al m).kp;refine .value h hd r (v:=.int .u8 u.toNat) ?_ (.pure _ _ (.int _ _)) (pt _ _);simp only[execOp,aE,Sem.run_bind,y,z,Instr.index,asIntOf,Sem.run_pure,Result.andThen_ok,run_underlying f,p,if_true,ani,q]
    ·cases he
   ·cases he
  ·cases hk
 ·cases c
def xM:Option Operand->Option aL->Bool
 |none,none=>true|some x,some y=>dJ x y|_,_=>false
theorem HL{x:Value}{k:IntKind}{y:Nat}{c:BoundsCode}(ah:x=.int k n)(e:0<=n)(f:n<=y):(Instr.sliceBound x y c).run P w=.ok n.toNat w:=by
 subst ah;simp[Instr.sliceBound,asIntOf,e,f]
theorem Mg(h:Rel P gl N g s a w){x:Option Operand}{y:Option aL}{e:Nat}(c:xM x y=true)(he:h9 gl s.env e y=some n) :
  (x=none/\n=e)\/∃z k,x=some z/\a.eval z=.int k n:=by
 unfold xM at c;split at c
 ·simp_all[h9]
 ·rename_i x y;simp only[h9]at he;split at he
  ·rename_i k m hm;simp at he;subst he;exact .inr ⟨x,k,rfl,(dk h c hm).kp⟩
  ·cases he
 ·cases c
theorem D9(h:Rel P gl N g s a w){bc al:Option Operand}{m p:Option aL}{len cap:Nat}{l r:Int}(c:Bool)(q:xM bc m=true)(C:xM al p=true)
  (u:h9 gl s.env 0 m=some l)(e:h9 gl s.env len p=some r)(y:0<=l)(F:l<=r)(G:r<=len)(H:len<=cap) :
  (Instr.sliceBounds c len cap (bc.map a.eval) (al.map a.eval) none).run P w=.ok (l.toNat,r.toNat,cap) w:=by
 unfold Instr.sliceBounds;rcases Mg h C e with⟨rfl,A⟩|⟨z,k,rfl,B⟩
 ·rcases Mg h q u with⟨rfl,f⟩|⟨D,E,rfl,j⟩
  ·subst A f;simp
  ·subst A;simp[HL j y (show l<=((len:Nat):Int) by omega)]
 ·rcases Mg h q u with⟨rfl,f⟩|⟨D,E,rfl,j⟩
  ·subst f;simp[HL B am (show r<=((cap:Nat):Int) by omega)]
  ·simp[HL B am (show r<=((cap:Nat):Int) by omega),HL j y (show l<=((r.toNat:Nat):Int) by omega)]
end
end AM
