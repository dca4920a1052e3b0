/- An abstract machine, and what of the given program it does, part 1. Conditions: none. -/
import Derived.Orders
import Derived.Laws.AppendOwn
set_option linter.unusedVariables false
namespace AM
open List renaming pairwise_cons -> aKg,mem_cons_of_mem -> aKh
open Go
def M:Nat:=1099511627776
inductive AV where
 |bool (b:Bool)|int (k:IntKind) (n:Int)|str (s:List UInt8)|eP|ptr (id off:Nat)|db (cs:List AV)|list (own:Option Nat) (sz:Nat) (xs:List AV)|map (id:Nat)|gw|fn (f:Nat) (gx:List AV)|ki|kj|aV (sz:Nat)|lb (sz:Nat)|gZ (sz:Nat)|bs (id off n sz:Nat)|agg (cs:List AV)|a8 (vs:List AV)
 deriving Inhabited
namespace AV
def cells:AV->List AV
 |.agg cs=>cs|v=>[v]
def aW:AV->AV
 |.list _ sz xs=>.list none sz xs|v=>v
def iI:AV->Option (Nat×List AV)
 |.list _ sz xs=>some (sz,xs)|.aV sz=>some (sz,[])|.gZ sz=>some (sz,[])|_=>none
def uu:Bool->AV->Option (Nat×List AV)
 |true,.str b=>some (1,b.map fun c=>.int .u8 c.toNat)|true,_=>none|false,v=>v.iI
def eb:AV->Bool
 |.bool _|.int _ _|.str _|.eP|.gw|.ki|.kj|.aV _|.gZ _|.db _=>true|.list none _ _=>true|_=>false
def pure:AV->Bool
 |.agg cs=>cs.all eb|v=>v.eb
def one:AV->Bool
 |.agg _|.a8 _=>false|_=>true
end AV
inductive cW where
 |v (x:AV)|b (cs:List AV)|a (t off:Nat)
 deriving Inhabited
inductive ax where
 |cells (cs:List AV)|buf (e:Nat) (cs:List AV)|map (n:Nat) (es:List (AV×AV))|iter (m:Option Nat) (since:Nat) (seen:List AV)|dead
 deriving Inhabited
abbrev Env:=List (Nat×cW)
structure an where
 env:Env
 heap:List ax
namespace Env
def get:Env->Nat->Option cW
 |[],_=>none|(k,e)::r,t=>if t=k then some e else get r t
def ins:Env->Nat->cW->Env
 |[],t,e=>[(t,e)]|(k,b3)::r,t,e=>if t<k then(t,e)::(k,b3)::r else if t=k then(t,e)::r else(k,b3)::ins r t e
def del:Env->Nat->Env
 |[],_=>[]|(k,e)::r,t=>if t=k then del r t else(k,e)::del r t
def JB:Env->Nat->Env
 |[],_=>[]|(k,.a u off)::r,t=>if u=t then JB r t else(k,.a u off)::JB r t|(k,e)::r,t=>(k,e)::JB r t
def close:Env->List Nat->Env
 |[],_=>[]|(_,.a _ _)::r,bu=>close r bu|(k,e)::r,bu=>if bu.contains k then close r bu else(k,e)::close r bu
end Env
inductive aI where
 |t (n:Nat)|c (x:AV)|f (n:Nat)|g (n:Nat)
 deriving Inhabited
inductive cz where
 |ho (d:Nat) (x:aI)|pn (d x:Nat)|uv (d e sz:Nat)|pick (d:Nat) (c a b:aI)|bin (d m:Nat) (op:BinOp) (x y:aI)|td (d:Nat) (ne:Bool) (ks:List Nat) (x y:aI)|po (d:Nat) (x:aI)|neg (d:Nat) (x:aI)|conv (d:Nat) (k:IntKind) (x:aI)
 |ext (d x i:Nat)|len (d m:Nat) (x:aI)|alloc (d:Nat) (z:List AV)|box (d:Nat) (x:aI)|ju (d:Nat) (z:List AV)|r4 (d:Nat) (x:aI)|r5 (d:Nat) (x:aI)|build (d:Nat) (z:List AV) (parts:List (Nat×Nat×aI))|lit (d sz:Nat) (xs:List aI)|e3 (d:Nat) (x:aI) (off:Nat)|mw (d sz:Nat) (x i:aI)|nQ (d:Nat) (x:aI) (n sz:Nat) (i:aI)|ld (d:Nat) (x:aI) (n:Nat) (ag:Bool)|iv (d:Nat) (x:aI) (e sz:Nat)|st (n:Nat) (x v:aI)|hP (x:aI) (v:Nat)|idx (d:Nat) (x i:aI)|pq (d sz:Nat) (x:aI) (bh ak:Option aI)|qg (d:Nat) (x:aI) (n sz:Nat) (bh ak:Option aI)|app (d s:Nat) (x:aI) (e sz:Nat)|ha (d:Nat) (x:aI)|oF (d f:Nat) (gx:List aI)|q3 (d:Nat) (c:aI) (e sz:Nat)|uw (d e:Nat) (z:List AV)|q4 (d:Nat) (x:aI) (e sz:Nat)|mx (d:Nat) (kl:Bool) (x y:aI)|ux (d:Nat)|look (ks:List Nat) (d:Nat) (m k:aI) (zero:AV) (ok:Bool)|h8 (ks:List Nat) (d:Nat) (m k:aI) (zero:AV)|pr (ks:List Nat) (m k v:aI)|qh (ks:List Nat) (m k:aI) (v:Nat)|ps (ks:List Nat) (d:Option Nat) (m k:aI)|q5 (d:Nat) (m:aI)|nc (d:Nat) (it:aI)|nR (d:Nat) (it:aI)|r6 (d e sz:Nat) (xs:List aI)|pt (d e sz:Nat) (xs:List aI)|r7 (d e:Nat) (z:List AV) (x:aI)|q6 (d e sz:Nat) (h2:Bool) (u x:aI)|q7 (d:Nat) (ne:Bool) (x:aI)|r8 (d:Nat) (x:aI)|r9 (d e:Nat) (x n:aI)|sa (d f:Nat) (x:aI)|te (d f:Nat) (x y:aI)|sb (e:Nat) (z:List AV) (x:aI)|lf (b:Bool) (n:Nat) (x v:aI)|on (m:Nat) (o:cz)|bad (d:Option Nat)|lS (d:Option Nat) (f:Nat) (xs:List aI)|my (d:Option Nat) (f u:Nat) (xs:List aI)|ev (d:Option Nat) (f:Nat) (xs:List aI)|hB (d:Option Nat) (f:Nat) (xs:List aI)|lg (d:Option Nat) (x:aI) (xs:List aI)
 deriving Inhabited
structure bk where
 g:Option (Nat×Bool)
 o:cz
inductive aG where
 |skip|ab (dc:List bk) (aGv:List Nat)|seq (a b:aG)|cond (c:aI) (a b:aG)|block (id:Nat) (c:aG)|loop (c:aG)|exit (id:Nat)|ret
 /-- ghost: the list or string in t is no longer than M -/
 |FA (t:Nat) (c:aG)
 /-- ghost: forget temporaries -/
 |drop (bu:List Nat) (c:aG)
 /-- ghost: the heap slice in t becomes immutable -/
 |qi (t e sz:Nat) (c:aG)|sc (t off e sz:Nat) (c:aG)
 /-- ghost: the object at t is not used any more -/
 |kill (t:Nat) (c:aG)
 /-- code that is not reached -/
 |bad
inductive kn where
 |normal|exit (id:Nat)|ret
abbrev cp:=Nat->Option AV
section
variable (gl:cp)
def bg(env:Env):aI->Option AV
 |.t n=>match Env.get env n with|some (.v x)=>some x|_=>none
 |.c x=>some x|.f n=>some (.fn n [])|.g n=>gl n
def eG(env:Env):List aI->Option (List AV)
 |[]=>some []|x::r=>match bg gl env x,eG env r with|some v,some vs=>some (v::vs)|_,_=>none
def eH(env:Env)(d:Nat):Bool:=match Env.get env d with|some (.b _)=>false|some (.a _ _)=>false|_=>true
def lT(env:Env)(d:Nat):Bool:=env.any fun p=>match p.2 with|.a u _=>u==d|_=>false
def gy(env:Env)(d:Nat):Bool:=match Env.get env d with|some (.a _ _)=>true|_=>false
def an.put(s:an)(d:Nat)(x:AV):Option an:=if eH s.env d then some { s with env:=s.env.ins d (.v x) }else none
def an.lh(s:an)(d:Nat)(cs:List AV):Option an:=if lT s.env d||gy s.env d then none else some { s with env:=s.env.ins d (.b cs) }
def an.fr(s:an)(d:Option Nat)(x:AV):Option an:=match d with|some d=>s.put d x|none=>some s
inductive lj where
 |ee (t off:Nat)|ao (id off:Nat)|jf (cs:List AV)
def eo(env:Env):aI->Option lj
 |.t n=>match Env.get env n with
  |some (.b _)=>some (.ee n 0)|some (.a t off)=>some (.ee t off)|some (.v (.ptr id off))=>some (.ao id off)|some (.v (.db cs))=>some (.jf cs)|_=>none
 |.g n=>match gl n with|some (.db cs)=>some (.jf cs)|_=>none
 |_=>none
def bC(s:an)(n:Nat):lj->Option (List AV)
 |.ee t off=>match Env.get s.env t with
  |some (.b cs)=>if off+n<=cs.length then some ((cs.drop off).take n)else none|_=>none
 |.ao id off=>match s.heap[id]? with
  |some (.cells cs)=>if off+n<=cs.length then some ((cs.drop off).take n)else none|some (.buf _ cs)=>if off+n<=cs.length then some ((cs.drop off).take n)else none|_=>none
 |.jf cs=>if n<=cs.length then some (cs.take n)else none
def setCells:List AV->Nat->List AV->List AV
 |cs,_,[]=>cs|cs,off,v::r=>setCells (cs.set off v) (off+1) r
def bz(s:an)(vs:List AV):lj->Option an
 |.ee t off=>match Env.get s.env t with
  |some (.b cs)=>if off+vs.length<=cs.length then some { s with env:=s.env.ins t (.b (setCells cs off vs)) }else none|_=>none
 |.ao id off=>match s.heap[id]? with
  |some (.cells cs)=>if off+vs.length<=cs.length then some { s with heap:=s.heap.set id (.cells (setCells cs off vs)) }else none|some (.buf e cs)=>if off+vs.length<=cs.length then some { s with heap:=s.heap.set id (.buf e (setCells cs off vs)) }else none|_=>none
 |.jf _=>none
def Rs(op:BinOp)(k:IntKind)(a b:Int):Int:=match op with
 |.and=>k.wrap (BitVec.ofInt k.bits a&&& BitVec.ofInt k.bits b).toNat|_=>k.wrap (BitVec.ofInt k.bits a ^^^ BitVec.ofInt k.bits b).toNat
def zZ(op:BinOp)(k:IntKind)(a b:Int):Option AV :=
 if 0<=b then some (.int k (match op with|.shl=>k.wrap (a*2 ^ min b.toNat k.bits)|_=>a / 2 ^ min b.toNat k.bits))else none
def FB(op:BinOp)(k:IntKind)(a b:Int):Option AV :=
 match op with
 |.add=>some (.int k (k.wrap (a+b)))|.sub=>some (.int k (k.wrap (a-b)))|.mul=>some (.int k (k.wrap (a*b)))|.quo=>if b=0 then none else some (.int k (k.wrap (a.tdiv b)))|.rem=>if b=0 then none else some (.int k (a.tmod b))|.eql=>some (.bool (a==b))|.neq=>some (.bool (a != b))|.lss=>some (.bool (decide (a<b)))|.leq=>some (.bool (decide (a<=b)))|.gtr=>some (.bool (decide (a>b)))|.geq=>some (.bool (decide (a>=b)))|.shr=>zZ .shr k a b|.shl=>zZ .shl k a b|.and=>some (.int k (Rs .and k a b))|.xor=>some (.int k (Rs .xor k a b))|_=>none
def FC(op:BinOp)(a b:List UInt8):Option AV :=
 match op with
 |.add=>if a.length+b.length<=M then some (.str (a++b))else none|.eql=>some (.bool (a==b))|.neq=>some (.bool (!(a==b)))|.lss=>some (.bool (Op.bytesLess a b))|.leq=>some (.bool (Op.bytesLess a b||a==b))|.gtr=>some (.bool (!(Op.bytesLess a b||a==b)))|.geq=>some (.bool (!(Op.bytesLess a b)))|_=>none
def qj:AV->AV->Option Bool
 |.bool a,.bool b=>some (a==b)|.int k a,.int k' b=>if k=k' then some (a==b)else none|.str a,.str b=>some (a==b)|_,_=>none
def eqs:List AV->List AV->Option Bool
 |[],[]=>some true|x::r,y::r'=>match qj x y,eqs r r' with|some a,some b=>some (a&&b)|_,_=>none
 |_,_=>none
def nd:AV->Nat
 |.int _ _=>0|.str _=>1|.bool _=>2|_=>3
def uy:List Nat->List AV->List AV->Option Bool
 |[],[],[]=>some true|k::ks,x::r,y::r'=>if nd x=k then(match qj x y,uy ks r r' with|some a,some b=>some (a&&b)|_,_=>none)else none|_,_,_=>none
def FD(m:Nat)(op:BinOp):AV->AV->Option AV
 |.int k a,.int k' b=>if m=0/\(k=k'\/op=.shl\/op=.shr)then FB op k a b else none|.str a,.str b=>if m=0 then FC op a b else none|.bool a,.bool b=>if m=3 then(match op with|.eql=>some (.bool (a==b))|.neq=>some (.bool (!(a==b)))|_=>none)else none|.eP,.eP=>if m=2 then(match op with|.eql=>some (.bool true)|.neq=>some (.bool false)|_=>none)else none|.eP,.ptr _ _=>if m=2 then(match op with|.eql=>some (.bool false)|.neq=>some (.bool true)|_=>none)else none|.ptr a o,.ptr ch dj=>if m=4/\a=ch/\o=dj then(match op with|.eql=>some (.bool true)|.neq=>some (.bool false)|_=>none)else none|.ptr _ _,.eP=>if m=2 then(match op with|.eql=>some (.bool false)|.neq=>some (.bool true)|_=>none)else none|_,_=>none
def nS(env:Env):List AV->List (Nat×Nat×aI)->Option (List AV)
 |z,[]=>some z|z,(off,n,x)::r=>match bg gl env x with
  |some v=>if v.cells.length=n/\off+n<=z.length/\v.cells.all AV.one then nS env (setCells z off (v.cells.map AV.aW)) r else none|none=>none
def hC(env:Env)(FE:Nat):Option aI->Option Int
 |none=>some FE|some x=>match bg gl env x with|some (.int _ n)=>some n|_=>none
def chunk(sz:Nat):Nat->List AV->List AV
 |0,_=>[]|n+1,cs=>(if sz=1 then(cs.headD default)else .agg (cs.take sz))::chunk sz n (cs.drop sz)
def hD:AV->Bool
 |.str _=>true|.int _ _=>true|.agg cs=>cs.all fun|.str _|.int _ _|.bool _=>true|_=>false
 |_=>false
def fb(ks:List Nat):AV->Bool
 |.str _=>ks==[1]|.agg cs=>ks.length != 1&&ks.all (fun k=>k==1||k==2)&&cs.map nd==ks|_=>false
def kG(ks:List Nat):List (AV×AV)->Bool
 |[]=>true|(k,_)::_=>fb ks k
def dB:AV->AV->Bool
 |.str a,.str b=>a==b|.int k a,.int k' b=>k==k'&&a==b|.agg a,.agg b=>eqs a b==some true|_,_=>false
def Rt:AV->AV->Bool
 |.str a,.str b=>Op.bytesLess a b|.int _ a,.int _ b=>decide (a<b)|.bool a,.bool b=>!a&&b|_,_=>false
def Ru:List AV->List AV->Bool
 |x::r,y::r'=>Rt x y||(qj x y==some true&&Ru r r')|_,_=>false
def JC:AV->AV->Bool
 |.agg a,.agg b=>Ru a b|x,y=>Rt x y
def gG:List (AV×AV)->AV->Option AV
 |[],_=>none|(k,v)::r,x=>if dB x k then some v else gG r x
def iJ:List (AV×AV)->AV->AV->List (AV×AV)
 |[],_,_=>[]|(k,u)::r,x,v=>if dB x k then(k,v)::r else(k,u)::iJ r x v
def tf:List (AV×AV)->AV->AV->List (AV×AV)
 |[],x,v=>[(x,v)]|(k,u)::r,x,v=>if JC x k then(x,v)::(k,u)::r else(k,u)::tf r x v
def uz:List (AV×AV)->AV->List (AV×AV)
 |[],_=>[]|(k,u)::r,x=>if dB x k then r else(k,u)::uz r x
def oG(n:Nat)(es:List (AV×AV))(k v:AV):ax:=match gG es k with|some _=>.map n (iJ es k v)|none=>.map (n+1) (tf es k v)
def bytesOf:List AV->Option (List UInt8)
 |[]=>some []|.int .u8 n::r=>if 0<=n/\n<256 then(bytesOf r).map (UInt8.ofNat n.toNat::·)else none|_=>none
def dk:List UInt8->List UInt8->Int
 |[],[]=>0|[],_::_=>-1|_::_,[]=>1|a::r,b::t=>if a=b then dk r t else if a<b then -1 else 1
def ew(env:Env):aI->Nat
 |.t n=>match Env.get env n with|some (.b _)=>1|some (.a _ _)=>2|some (.v (.db _))=>3|some (.v (.ptr _ _))=>4|_=>0
 |.g _=>3|_=>0
def fG:cz->aI
 |.e3 _ x _|.ld _ x _ _|.iv _ x _ _|.st _ x _|.hP x _|.ha _ x=>x|_=>.c .eP
def q8(H:List ax):AV->Option (Nat×Option Nat×Nat×List AV×List (AV×AV))
 |.ptr id 0=>match H[id]? with
  |some (.iter none since seen)=>some (id,none,since,seen,[])|some (.iter (some mid) since seen)=>match H[mid]? with
   |some (.map n es)=>if n=since then some (id,some mid,since,seen,es.filter fun e=>!seen.any (dB e.1))else none|_=>none
  |_=>none
 |_=>none
def pv(b:Bool)(n:Nat)(H:List ax):Option AV->Option AV->Option (List ax)
 |some (.ptr id off),some u=>match H[id]? with
  |some (.cells cs)=>if b=false/\u.cells.length=n/\u.cells.all AV.one=true/\off+n<=cs.length then some (H.set id (.cells (setCells cs off (u.cells.map AV.aW))))else none|some (.buf e cs)=>if b=true/\u.cells.length=n/\u.cells.all AV.one=true/\off+n<=cs.length then some (H.set id (.buf e (setCells cs off (u.cells.map AV.aW))))else none|_=>none
 |_,_=>none
def aH(s:an):cz->Option an
 |.ho d x=>(bg gl s.env x).bind fun v=>s.put d v.aW|.pn d x=>match Env.get s.env x with
  |some (.v (.list (some e) sz xs))=>if d=x then none else(s.put x (.list none sz xs)).bind fun s=>s.put d (.list (some e) sz xs)|some (.v v)=>s.put d v.aW|_=>none
 |.uv d e sz=>s.put d (.list (some e) sz [])|.pick d c a b=>match bg gl s.env c with
  |some (.bool t)=>if t=true then(bg gl s.env a).bind fun v=>s.put d v.aW else(bg gl s.env b).bind fun v=>s.put d v.aW|_=>none
 |.bin d m op x y=>match bg gl s.env x,bg gl s.env y with
  |some a,some b=>(FD m op a b).bind fun v=>s.put d v|_,_=>none
 |.td d ne ks x y=>match bg gl s.env x,bg gl s.env y with
  |some (.agg a),some (.agg b)=>(uy ks a b).bind fun r=>s.put d (.bool (if ne=true then !r else r))|_,_=>none
 |.po d x=>match bg gl s.env x with|some (.bool b)=>s.put d (.bool (!b))|_=>none
 |.neg d x=>match bg gl s.env x with|some (.int k n)=>s.put d (.int k (k.wrap (0-n)))|_=>none
 |.conv d k x=>match bg gl s.env x with|some (.int _ n)=>s.put d (.int k (k.wrap n))|_=>none
 |.ext d x i=>match Env.get s.env x with|some (.v (.a8 vs))=>(vs[i]?).bind fun v=>s.put d v.aW|_=>none
 |.len d m x=>match bg gl s.env x with
  |some (.list _ _ xs)=>if m=1 then s.put d (.int .i64 xs.length)else none|some (.str b)=>if m=0 then s.put d (.int .i64 b.length)else none|some .gw=>if m=2 then s.put d (.int .i64 0)else none|some (.aV _)=>if m=1 then s.put d (.int .i64 0)else none|some (.gZ _)=>if m=1 then s.put d (.int .i64 0)else none|some (.bs _ _ n _)=>if m=1 then s.put d (.int .i64 n)else none|some (.map id)=>if m=2 then(match s.heap[id]? with|some (.map _ es)=>s.put d (.int .i64 es.length)|_=>none)else none|_=>none
 |.alloc d z=>s.lh d z|.box d x=>(bg gl s.env x).bind fun v=>if v.cells.all AV.one then s.lh d (v.cells.map AV.aW)else none|.ju d z=>({ s with heap:=s.heap++[ax.cells z] }).put d (.ptr s.heap.length 0)|.r4 d x=>(bg gl s.env x).bind fun v=>if v.cells.all AV.one then({ s with heap:=s.heap++[ax.cells (v.cells.map AV.aW)] }).put d (.ptr s.heap.length 0)else none|.r5 d x=>(bg gl s.env x).bind fun v=>if v.cells.all AV.eb then s.put d (.db v.cells)else none|.build d z parts=>(nS gl s.env z parts).bind fun cs=>s.put d (.agg cs)|.lit d sz xs=>(eG gl s.env xs).bind fun vs =>
   if vs.all (fun v=>v.aW.pure&&v.cells.length==sz)&&decide (vs.length<=1000)then s.put d (.list none sz (vs.map AV.aW))else none
 |.e3 d x off=>match eo gl s.env x with
  |some (.ee t o)=>if eH s.env d then some { s with env:=s.env.ins d (.a t (o+off)) }else none|some (.ao id o)=>s.put d (.ptr id (o+off))|some (.jf cs)=>if off<=cs.length then s.put d (.db (cs.drop off))else none|none=>none
 |.mw d sz x i=>match bg gl s.env x,bg gl s.env i with
  |some (.list _ dE xs),some (.int _ n)=>if dE=sz/\0<=n/\n<xs.length then(xs[n.toNat]?).bind fun v=>s.put d (.db v.cells)else none|some (.bs id off m dE),some (.int _ n)=>if dE=sz/\0<=n/\n<m then s.put d (.ptr id (off+n.toNat*sz))else none|_,_=>none
 |.nQ d x n sz i=>match eo gl s.env x,bg gl s.env i with
  |some (.ee t o),some (.int _ k)=>if 0<=k/\k<n/\eH s.env d=true then some { s with env:=s.env.ins d (.a t (o+k.toNat*sz)) }else none|some (.ao id o),some (.int _ k)=>if 0<=k/\k<n then s.put d (.ptr id (o+k.toNat*sz))else none|some (.jf cs),some (.int _ k)=>if 0<=k/\k<n/\n*sz<=cs.length then s.put d (.db (cs.drop (k.toNat*sz)))else none|_,_=>none
 |.ld d x n ag=>(eo gl s.env x).bind fun p=>(bC s n p).bind fun cs =>
   if ag=true then s.put d (.agg (cs.map AV.aW))else match cs with|[v]=>s.put d v.aW|_=>none
 |.iv d x e sz=>(eo gl s.env x).bind fun p=>(bC s 1 p).bind fun cs=>match cs with
   |[.list (some e) sz xs]=>(bz s [.list none sz xs] p).bind fun s=>s.put d (.list (some e) sz xs)|[.aV _]=>s.put d (.list (some e) sz [])|_=>none
 |.st n x v=>(eo gl s.env x).bind fun p=>(bg gl s.env v).bind fun v=>if v.cells.length=n/\v.cells.all AV.one then bz s (v.cells.map AV.aW) p else none|.hP x v=>(eo gl s.env x).bind fun p=>match Env.get s.env v with
   |some (.v (.list (some e) sz xs))=>(s.put v (.list none sz xs)).bind fun s=>bz s [.list (some e) sz xs] p|_=>none
 |.idx d x i=>match bg gl s.env x,bg gl s.env i with
  |some (.str b),some (.int _ n)=>if 0<=n then(b[n.toNat]?).bind fun c=>s.put d (.int .u8 c.toNat)else none|_,_=>none
 |.pq d jg x bh ak=>match bg gl s.env x with
  |some (.str b)=>match hC gl s.env 0 bh,hC gl s.env b.length ak with
   |some l,some h=>if jg=0/\0<=l/\l<=h/\h<=b.length then s.put d (.str ((b.take h.toNat).drop l.toNat))else none|_,_=>none
  |some (.list _ sz xs)=>match hC gl s.env 0 bh,hC gl s.env xs.length ak with
   |some l,some h=>if jg=sz/\sz≠0/\0<=l/\l<=h/\h<=xs.length then s.put d (.list none sz ((xs.take h.toNat).drop l.toNat))else none|_,_=>none
  |some (.aV sz)=>match hC gl s.env 0 bh,hC gl s.env 0 ak with
   |some l,some h=>if jg=sz/\sz≠0/\l=0/\h=0 then s.put d (.aV sz)else none|_,_=>none
  |some (.bs id off n sz)=>match hC gl s.env 0 bh,hC gl s.env n ak with
   |some l,some h=>if jg=sz/\sz≠0/\0<=l/\l<=h/\h<=n then(if 0<l/\l=h then s.put d (.list none sz [])else s.put d (.bs id (off+l.toNat*sz) (h.toNat-l.toNat) sz))else none|_,_=>none
  |_=>none
 |.qg d x n sz bh ak=>match eo gl s.env x with
  |some (.jf cs)=>if cs.length=n*sz/\n<=1000 then match hC gl s.env 0 bh,hC gl s.env n ak with
   |some l,some h=>if 0<=l/\l<=h/\h<=n then s.put d (.list none sz (((chunk sz n cs).take h.toNat).drop l.toNat))else none|_,_=>none
   else none
  |_=>none
 |.app d u x e sz=>match Env.get s.env u,(bg gl s.env x).bind AV.iI with
  |some (.v (.list (some b3) dE xs)),some (nf,ys) =>
   if b3=e/\dE=sz/\nf=sz/\d≠u/\xs.length+ys.length<=M then
    (s.put u (.list none sz xs)).bind fun s=>s.put d (.list (some e) sz (xs++ys))else none
  |some (.v (.aV dE)),some (nf,ys)=>if dE=sz/\nf=sz/\d≠u/\ys.length<=M then s.put d (.list (some e) sz ys)else none|_,_=>none
 |.ha d x=>match x with
  |.t n=>match Env.get s.env n with
   |some (.b _)=>if eH s.env d then some { s with env:=s.env.ins d (.a n 0) }else none|some (.a t off)=>if eH s.env d then some { s with env:=s.env.ins d (.a t off) }else none|some (.v (.ptr id off))=>s.put d (.ptr id off)|some (.v (.db cs))=>s.put d (.db cs)|_=>none
  |_=>none
 |.oF d f gx=>(eG gl s.env gx).bind fun vs=>if vs.all AV.one then s.put d (.fn f (vs.map AV.aW))else none|.q3 d c e sz=>match bg gl s.env c with
  |some (.int _ n)=>if 0<=n/\n<=M then s.put d (.list (some e) sz [])else none|_=>none
 |.uw d e z=>({ s with heap:=s.heap++[ax.buf e z,.dead] }).put d (.ptr s.heap.length 0)|.q4 d x e sz=>match bg gl s.env x with
  |some (.ptr id 0)=>(match s.heap[id]? with|some (.buf b3 cs)=>if b3=e/\sz<=cs.length then s.put d (.ptr id 0)else none|_=>none)|_=>none
 |.mx d kl x y=>match bg gl s.env x,bg gl s.env y with
  |some (.int k a),some (.int _ b)=>s.put d (.int k (if kl=true then(if b>a then b else a)else(if b<a then b else a)))|_,_=>none
 |.ux d=>({ s with heap:=s.heap++[ax.map 0 []] }).put d (.map s.heap.length)|.look ks d m k zero ok=>match bg gl s.env m,bg gl s.env k with
  |some (.map id),some kk=>match s.heap[id]? with
   |some (.map _ es)=>if fb ks kk&&kG ks es then
     (match gG es kk with
      |some v=>s.put d (if ok=true then .a8 [v.aW,.bool true]else v.aW)|none=>s.put d (if ok=true then .a8 [zero,.bool false]else zero))else none
   |_=>none
  |some .gw,some kk=>if fb ks kk then s.put d (if ok=true then .a8 [zero,.bool false]else zero)else none|_,_=>none
 |.h8 ks d m k zero=>match bg gl s.env m,bg gl s.env k with
  |some (.map id),some kk=>match s.heap[id]? with
   |some (.map n es)=>if fb ks kk&&kG ks es then
     (match gG es kk with
      |some (.list (some e) sz xs)=>({ s with heap:=s.heap.set id (.map n (iJ es kk (.list none sz xs))) }).put d (.list (some e) sz xs)|some _=>none|none=>s.put d zero)else none
   |_=>none
  |_,_=>none
 |.pr ks m k v=>match bg gl s.env m,bg gl s.env k,bg gl s.env v with
  |some (.map id),some kk,some v=>match s.heap[id]? with
   |some (.map n es)=>if fb ks kk&&kG ks es then some { s with heap:=s.heap.set id (oG n es kk v.aW) }else none|_=>none
  |_,_,_=>none
 |.qh ks m k v=>match bg gl s.env m,bg gl s.env k,Env.get s.env v with
  |some (.map id),some kk,some (.v (.list (some e) sz xs))=>match s.heap[id]? with
   |some (.map n es)=>if fb ks kk&&kG ks es then({ s with heap:=s.heap.set id (oG n es kk (.list (some e) sz xs)) }).put v (.list none sz xs)else none|_=>none
  |_,_,_=>none
 |.ps ks d m k=>match bg gl s.env m,bg gl s.env k with
  |some (.map id),some kk=>match s.heap[id]? with
   |some (.map n es)=>if fb ks kk&&kG ks es then({ s with heap:=s.heap.set id (.map n (uz es kk)) }).fr d (.a8 [])else none|_=>none
  |_,_=>none
 |.q5 d m=>match bg gl s.env m with
  |some (.map id)=>match s.heap[id]? with
   |some (.map n _)=>({ s with heap:=s.heap++[ax.iter (some id) n []] }).put d (.ptr s.heap.length 0)|_=>none
  |some .gw=>({ s with heap:=s.heap++[ax.iter none 0 []] }).put d (.ptr s.heap.length 0)|_=>none
 |.nR d it=>match bg gl s.env it with
  |some (.ptr id 0)=>match s.heap[id]? with
   |some (.iter (some mid) since seen)=>match s.heap[mid]?,seen.getLast? with
    |some (.map n es),some k=>if n=since then(gG es k).bind fun v=>s.put d (.a8 [k,v.aW])else none|_,_=>none
   |_=>none
  |_=>none
 |.pt d e sz xs=>(eG gl s.env xs).bind fun vs =>
   if vs.all (fun v=>v.aW.pure&&v.cells.length==sz)&&decide (vs.length<=1000)then s.put d (.list (some e) sz (vs.map AV.aW))else none
 |.r6 d e sz xs=>(eG gl s.env xs).bind fun vs =>
   if vs.all (fun v=>v.cells.length==sz&&v.cells.all AV.one)&&decide (vs.length<=1000)&&sz != 0 then
    ({ s with heap:=s.heap++[ax.buf e (vs.map fun v:AV=>v.cells.map AV.aW).flatten,.dead] }).put d (.bs s.heap.length 0 vs.length sz)else none
 |.r7 d e z x=>match bg gl s.env x with
  |some (.int _ n)=>if 0<=n/\n<=100000 then({ s with heap:=s.heap++[ax.buf e (List.replicate n.toNat z).flatten,.dead] }).put d (.bs s.heap.length 0 n.toNat z.length)else none|_=>none
 |.q6 d e sz h2 u x=>match bg gl s.env u,(bg gl s.env x).bind (AV.uu h2)with
  |some (.aV nT),some (dE,ys)=>if nT=sz/\dE=sz/\ys.length<=M then match ys with
    |[]=>s.put d (.aV sz)|_::_=>({ s with heap:=s.heap++[ax.buf e (ys.map fun v:AV=>v.cells.map AV.aW).flatten,.dead] }).put d (.bs s.heap.length 0 ys.length sz)
    else none
  |some (.bs id 0 n nT),some (dE,ys)=>match s.heap[id]? with
   |some (.buf b3 cs)=>if b3=e/\nT=sz/\dE=sz/\n*sz<=cs.length/\n+ys.length<=M then
     ({ s with heap:=s.heap.set id .dead++[ax.buf e ((cs.take (n*sz)).map AV.aW++(ys.map fun v:AV=>v.cells.map AV.aW).flatten),.dead] }).put d (.bs s.heap.length 0 (n+ys.length) sz)else none
   |_=>none
  |_,_=>none
 |.q7 d ne x=>match bg gl s.env x with
  |some (.aV _)=>s.put d (.bool (!ne))|some (.gZ _)=>s.put d (.bool ne)|some (.list _ _ (_::_))=>s.put d (.bool ne)|_=>none
 |.r8 d x=>match bg gl s.env x with
  |some (.bs id off n _)=>if 0<n then s.put d (.ptr id off)else none|some (.aV _)=>s.put d .eP|_=>none
 |.r9 d e x n=>match bg gl s.env x,bg gl s.env n with
  |some (.ptr id 0),some (.int .i64 n)=>match s.heap[id]? with
   |some (.buf b3 cs)=>if b3=e/\0<n/\n<=cs.length/\n<=M then(bytesOf (cs.take n.toNat)).bind fun b=>({ s with heap:=s.heap.set id .dead }).put d (.str b)else none|_=>none
  |some .eP,some (.int .i64 n)=>if n=0 then s.put d (.str [])else none|_,_=>none
 |.sa d _ x=>(bg gl s.env x).bind fun v=>s.put d v.aW|.lf b n x v=>(pv b n s.heap (bg gl s.env x) (bg gl s.env v)).map fun H=>{ s with heap:=H }|.sb _ z x=>match bg gl s.env x with
  |some (.bs id off n sz)=>if z.length=sz/\0<n then bz s (List.replicate n z).flatten (.ao id off)else if n=0 then some s else none|some (.list _ _ [])=>some s|some (.aV _)=>some s|_=>none
 |.te d _ x y=>match bg gl s.env x,bg gl s.env y with
  |some (.str a),some (.str b)=>s.put d (.int .i64 (dk a b))|_,_=>none
 |.on m o=>if ew s.env (fG o)=m then aH s o else none|.bad _=>none|.nc .. |.lS .. |.my .. |.ev .. |.hB .. |.lg ..=>none
end
open Go
abbrev e4:=Nat->Nat->Option Value
mutual
inductive df(γ:e4):AV->Value->Prop where
 |bool (b:Bool):df γ (.bool b) (.bool b)|int (k:IntKind) (n:Int):df γ (.int k n) (.int k n)|str (s:List UInt8):s.length<=M->df γ (.str s) (.string ⟨s.toArray⟩)|eP:df γ .eP (.pointer none)|gw:df γ .gw (.map none)|ki:df γ .ki .nilFunc|kj:df γ .kj .nilIface|aV (sz:Nat):df γ (.aV sz) (.slice none 0 0)|db (b off:Nat) (cs:List AV):e5 γ b off cs->df γ (.db cs) (.pointer (some ⟨b,off,none⟩))|jD (sz:Nat) (base:Option Addr) (cap:Nat):(base=none->cap=0)->df γ (.list none sz []) (.slice base 0 cap)|gZ (sz:Nat) (base:Addr) (cap:Nat):df γ (.gZ sz) (.slice (some base) 0 cap)|list (b off cap sz:Nat) (xs:List AV):xs.length<=M->xs.length<=cap->eI γ b off sz xs->df γ (.list none sz xs) (.slice (some ⟨b,off,none⟩) xs.length cap)|agg (cs:List AV) (ws:List Value):fB γ cs ws->df γ (.agg cs) (.agg ws.toArray)
inductive e5(γ:e4):Nat->Nat->List AV->Prop where
 |nil (b off:Nat):e5 γ b off []|cons (b off:Nat) (c:AV) (cs:List AV) (v:Value):γ b off=some v->v.oneCell'=true->df γ c v->e5 γ b (off+1) cs->e5 γ b off (c::cs)
inductive eI(γ:e4):Nat->Nat->Nat->List AV->Prop where
 |nil (b off sz:Nat):eI γ b off sz []|cons (b off sz:Nat) (x:AV) (xs:List AV):x.cells.length=sz->e5 γ b off x.cells->eI γ b (off+sz) sz xs->eI γ b off sz (x::xs)
inductive fB(γ:e4):List AV->List Value->Prop where
 |nil:fB γ [] []|cons (c:AV) (cs:List AV) (v:Value) (ws:List Value):v.oneCell'=true->df γ c v->fB γ cs ws->fB γ (c::cs) (v::ws)
end
inductive ey where
 |none|outer|Co|var (t:Nat)|ee (t:Nat)|eJ (t i:Nat)|bA (id:Nat)|oc (id i:Nat)
 deriving DecidableEq
structure bo where
 γ:e4
 bD:Nat->ey
 b4:Nat->Option Nat
mutual
inductive bb(g:bo):AV->Value->Prop where
 |pure (x:AV) (v:Value):df g.γ x v->bb g x v|own (e sz:Nat) (xs:List AV) (v:Value):df g.γ (.list none sz xs) v->bb g (.list (some e) sz xs) v|ptr (id off b:Nat):g.b4 id=some b->bb g (.ptr id off) (.pointer (some ⟨b,off,none⟩))|map (id b:Nat):g.b4 id=some b->bb g (.map id) (.map (some b))|lb (sz:Nat) (base:Option Addr):bb g (.lb sz) (.slice base 0 0)|bs (id off n sz b k cap:Nat):g.b4 id=some b->g.b4 (id+1)=some k->off+cap*sz=k->n<=cap->bb g (.bs id off n sz) (.slice (some ⟨b,off,none⟩) n cap)|fn (f:Nat) (cs:List AV) (ws:List Value):cr g cs ws->bb g (.fn f cs) (.func (.func f) #[] ws.toArray)|agg (cs:List AV) (ws:List Value):cr g cs ws->(∀w∈ws,w.oneCell'=true)->bb g (.agg cs) (.agg ws.toArray)|a8 (cs:List AV) (ws:List Value):cr g cs ws->bb g (.a8 cs) (.tuple ws.toArray)
inductive cr(g:bo):List AV->List Value->Prop where
 |nil:cr g [] []|cons (c:AV) (cs:List AV) (v:Value) (ws:List Value):bb g c v->cr g cs ws->cr g (c::cs) (v::ws)
end
def wB(γ eQ:e4):Prop:=∀b o v,γ b o=some v->eQ b o=some v
variable {γ eQ:e4}{x:AV}{v:Value}
theorem df.mono(h:wB γ eQ)(ah:df γ x v):df eQ x v:=by
 refine df.rec (motive_1:=fun x v _=>df eQ x v) (motive_2:=fun b off cs _=>e5 eQ b off cs) (motive_3:=fun b off sz xs _=>eI eQ b off sz xs)
  (motive_4:=fun cs ws _=>fB eQ cs ws) ?_ ?_ ?_ ?_ ?_ ?_ ?_ ?_ ?_ ?_ ?_ ?_ ?_ ?_ ?_ ?_ ?_ ?_ ?_ ah
 ·exact fun b=>.bool b
 ·exact fun k n=>.int k n
 ·exact fun s az=>.str s az
 ·exact .eP
 ·exact .gw
 ·exact .ki
 ·exact .kj
 ·exact fun sz=>.aV sz
 ·exact fun b off cs _ h=>.db b off cs h
 ·exact fun sz base cap h=>.jD sz base cap h
 ·exact fun sz base cap=>.gZ sz base cap
 ·exact fun b off cap sz xs a e _ U=>.list b off cap sz xs a e U
 ·exact fun cs ws _ h=>.agg cs ws h
 ·exact fun b off=>.nil b off
 ·exact fun b off c cs v a U _ _ d f=>.cons b off c cs v (h _ _ _ a) U d f
 ·exact fun b off sz=>.nil b off sz
 ·exact fun b off sz x xs a _ _ U d=>.cons b off sz x xs a U d
 ·exact .nil
 ·exact fun c cs v ws a _ _ U d=>.cons c cs v ws a U d
theorem e5.mono(h:wB γ eQ):∀{cs:List AV}{b off:Nat},e5 γ b off cs->e5 eQ b off cs
 |[],_,_,_=>.nil _ _|_::_,_,_,.cons _ _ _ _ v h1 U a c=>.cons _ _ _ _ v (h _ _ _ h1) U (a.mono h) (e5.mono h c)
theorem eI.mono(h:wB γ eQ):∀{xs:List AV}{b off sz:Nat},eI γ b off sz xs->eI eQ b off sz xs
 |[],_,_,_,_=>.nil _ _ _|_::_,_,_,_,.cons _ _ _ _ _ h1 U a=>.cons _ _ _ _ _ h1 (U.mono h) (eI.mono h a)
structure GhLe(g g':bo):Prop where
 γ:wB g.γ g'.γ
 b4:∀id b,g.b4 id=some b->g'.b4 id=some b
variable {g g':bo}
theorem bb.mono(h:GhLe g g')(ah:bb g x v):bb g' x v:=by
 refine bb.rec (motive_1:=fun x v _=>bb g' x v) (motive_2:=fun cs ws _=>cr g' cs ws) ?_ ?_ ?_ ?_ ?_ ?_ ?_ ?_ ?_ ?_ ?_ ah
 ·exact fun x v ao=>.pure x v (ao.mono h.γ)
 ·exact fun e sz xs v ao=>.own e sz xs v (ao.mono h.γ)
 ·exact fun id off b ae=>.ptr id off b (h.b4 _ _ ae)
 ·exact fun id b ae=>.map id b (h.b4 _ _ ae)
 ·exact fun sz base=>.lb sz base
 ·exact fun id off n sz b k cap a U i j=>.bs id off n sz b k cap (h.b4 _ _ a) (h.b4 _ _ U) i j
 ·exact fun f cs ws _ d=>.fn f cs ws d
 ·exact fun cs ws _ a d=>.agg cs ws d a
 ·exact fun cs ws _ d=>.a8 cs ws d
 ·exact .nil
 ·exact fun c cs v ws _ _ a U=>.cons c cs v ws a U
theorem cr.mono(h:GhLe g g'):∀{cs:List AV}{ws:List Value},cr g cs ws->cr g' cs ws
 |[],_,.nil=>.nil|_::_,_,.cons _ _ _ _ h1 U=>.cons _ _ _ _ (h1.mono h) (cr.mono h U)
def e6(P:Program)(g:bo)(w:World)(o:ey)(x:AV)(v:Value):Prop :=
 ∀e sz xs,x=.list (some e) sz xs->∃i z vs,P.info? e=some i/\i.size=sz/\0<sz/\i.zero=some z/\z.cells.size=sz/\i.bytes<=128 /\
  xs.length<=M/\w.ownsRow 0 e sz v xs.length vs/\∀b,v.ownBlock=some b->g.bD b=o/\eI g.γ b 0 sz xs/\∀off,xs.length*sz<=off->g.γ b off=none
def iK(P:Program)(g:bo)(w:World)(b:Nat)(o:ey)(oc:Nat->ey)(cs:List AV):Prop :=
 ∃arr ty,w.heap[b]?=some (.cells arr ty (0,0))/\cs.length<=arr.size/\g.bD b=o/\(∀off,g.γ b off=none) /\
  ∀i c,cs[i]?=some c->∃v,arr[i]?=some v/\v.oneCell'=true/\bb g c v/\e6 P g w (oc i) c v
def ptrTo(b off:Nat):Value:=.pointer (some ⟨b,off,none⟩)
def x8(P:Program)(g:bo)(env:Env)(a:Act)(w:World)(t:Nat):cW->Prop
 |.v x=>∃v,a.tmps[t]?=some v/\bb g x v/\e6 P g w (.var t) x v|.b cs=>∃b,a.tmps[t]?=some (ptrTo b 0)/\iK P g w b (.ee t) (.eJ t) cs|.a u off=>(∃cs,env.get u=some (.b cs))/\∃b,a.tmps[t]?=some (ptrTo b off)/\a.tmps[u]?=some (ptrTo b 0)
def z1(P:Program)(g:bo)(w:World)(id:Nat)(e:AV×AV)(m:MapEntry):Prop :=
 bb g e.1 m.key/\hD e.1=true/\bb g e.2 m.val/\e6 P g w (.oc id m.born) e.2 m.val
def FF(P:Program)(g:bo)(w:World)(id:Nat)(es:List (AV×AV))(arr:List MapEntry):Prop :=
 ∃cX:List (AV×AV),cX.Perm es/\cX.length=arr.length/\∀(i:Nat)e m,cX[i]?=some e->arr[i]?=some m->z1 P g w id e m
def mz(P:Program)(g:bo)(w:World)(id b n:Nat)(es:List (AV×AV)):Prop :=
 ∃arr,w.heap[b]?=some (.map arr n)/\g.bD b=.bA id/\FF P g w id es arr.toList /\
  arr.toList.Pairwise (fun x y=>x.born<y.born)/\(∀m∈arr.toList,m.born<n)/\es.Pairwise (fun x y=>dB x.1 y.1=false)/\∃ks,∀e∈es,fb ks e.1=true
def FG(w:World)(bj since:Nat)(seen:List AV)(gH:List Nat):Prop :=
 ∃L:List (AV×Nat),L.Pairwise (fun x y=>dB x.1 y.1=false/\x.2≠y.2)/\(∀x∈L,x.2<since/\hD x.1=true)/\seen.length=gH.length /\
  (∀(i:Nat)k s,seen[i]?=some k->gH[i]?=some s->(k,s)∈L) /\
  ∀arr,w.heap[bj]?=some (.map arr since)->∀m∈arr.toList,∃k,(k,m.born)∈L/\df (fun _ _=>none) k m.key
def pw(g:bo)(w:World)(since:Nat)(seen:List AV):Option Nat->Obj->Prop
 |none,.mapIter none _ _ _=>True|some mid,.mapIter (some bj) s gH last=>g.b4 mid=some bj/\g.bD bj=.bA mid/\s=since/\last=since/\FG w bj since seen gH.toList/\∃arr n,w.heap[bj]?=some (.map arr n)/\since<=n|_,_=>False
def sd(P:Program)(g:bo)(w:World)(id:Nat):ax->Prop
 |.cells cs=>∃b,g.b4 id=some b/\iK P g w b (.bA id) (.oc id) cs|.buf e cs=>∃b k,g.b4 id=some b/\g.b4 (id+1)=some k/\iK P g w b (.bA id) (.oc id) cs /\
   (∃arr,w.heap[b]?=some (.cells arr e (0,0))/\arr.size=k)/\∃i z,P.info? e=some i/\0<i.size/\i.zero=some z/\z.cells.size=i.size/\i.bytes<=128/\k<=maxLen*i.size
 |.map n es=>∃b,g.b4 id=some b/\mz P g w id b n es|.iter m since seen=>∃b o,g.b4 id=some b/\w.heap[b]?=some o/\g.bD b=.bA id/\pw g w since seen m o|.dead=>True
structure Rel(P:Program)(gl:cp)(N:Nat)(g:bo)(s:an)(a:Act)(w:World):Prop where
 sorted:s.env.Pairwise fun p q=>p.1<q.1
 size:a.tmps.size=N
 defers:a.defers=[]
 env:∀t e,s.env.get t=some e->x8 P g s.env a w t e
 heap:∀(id:Nat)o,s.heap[id]?=some o->sd P g w id o
 ff:∀b off v,g.γ b off=some v->w.cell? ⟨b,off,none⟩=some v
 own:∀b,g.bD b≠.none->b<w.heap.size
 gz:∀n x,gl n=some x->df g.γ x (ptrTo n 0)
 fE:∀id b,g.b4 id=some b->id<s.heap.length
structure ef(g:bo)(w:World)(g':bo)(w':World):Prop extends GhLe g g' where
 outer:∀b,g.bD b=.outer->g'.bD b=.outer/\w'.heap[b]?=w.heap[b]?/\∀o,g'.γ b o=g.γ b o
 size:w.heap.size<=w'.heap.size
 os:(w'.os,w'.tape)=(w.os,w.tape)
 out:w'.output=w.output
theorem ef.refl(g:bo)(w:World):ef g w g w:=⟨⟨fun _ _ _ h=>h,fun _ _ h=>h⟩,fun _ h=>⟨h,rfl,fun _=>rfl⟩,Nat.le_refl _,rfl,rfl⟩
variable {w w':World}
theorem ef.trans{c:bo}{d:World}(h:ef g w g' w')(a:ef g' w' c d):ef g w c d :=
 ⟨⟨fun _ _ _ x=>a.γ _ _ _ (h.γ _ _ _ x),fun _ _ x=>a.b4 _ _ (h.b4 _ _ x)⟩,
  fun b ae=>by
  obtain⟨e,U,f⟩:=h.outer b ae;obtain⟨i,j,k⟩:=a.outer b e;exact⟨i,j.trans U,fun o=>(k o).trans (f o)⟩,Nat.le_trans h.size a.size,a.os.trans h.os,a.out.trans h.out⟩
def Kept(g:bo)(w:World)(g':bo)(w':World)(K:ey->Prop):Prop :=
 ∀b,K (g.bD b)->g'.bD b=g.bD b/\w'.heap[b]?=w.heap[b]?/\∀o,g'.γ b o=g.γ b o
variable {P:Program}{o:ey}
theorem e6.lU(h:∀e sz xs,x≠.list (some e) sz xs):e6 P g w o x v :=
 fun e sz xs ah=>absurd ah (h e sz xs)
variable {n:Nat}
theorem ahp{base:Nat}{e size:Nat}{xs:List Value}(h:w.ownsRow base e size v n xs)
  (hk:∀b,v.ownBlock=some b->w'.heap[b]?=w.heap[b]?):w'.ownsRow base e size v n xs:=by
 refine⟨h.1,?_⟩;rcases h.2 with h|⟨g,cap,a,rfl,c,U,d⟩
 ·exact .inl h
 ·exact .inr ⟨g,cap,a,rfl,c,(hk g rfl).trans U,d⟩
variable {K:ey->Prop}
theorem e6.kept(h:e6 P g w o x v)(d:GhLe g g')
  (hk:Kept g w g' w' K)(aA:K o):e6 P g' w' o x v:=by
 intro e sz xs ah;obtain⟨i,z,vs,f,U,j,k,l,m,p,q,a⟩:=h e sz xs ah;refine⟨i,z,vs,f,U,j,k,l,m,p,ahp q fun b ae=>?_,fun b ae=>?_⟩
 ·have:=(a b ae).1;exact(hk b (by rw[this];exact aA)).2.1
 ·obtain⟨c,r,s⟩:=a b ae;obtain⟨t,A,u⟩:=hk b (by rw[c];exact aA);exact⟨t.trans c,r.mono d.γ,fun off y=>(u off).trans (s off y)⟩
variable {b:Nat}
theorem iK.kept{oc:Nat->ey}{cs:List AV}(h:iK P g w b o oc cs)
  (a:GhLe g g')(hk:Kept g w g' w' K)(aA:K o)(e:∀i,K (oc i)):iK P g' w' b o oc cs:=by
 obtain⟨arr,f,j,U,d,k,l⟩:=h;obtain⟨m,p,q⟩:=hk b (by rw[d];exact aA);refine⟨arr,f,p.trans j,U,m.trans d,fun off=>(q off).trans (k off),fun i c r=>?_⟩;obtain⟨v,s,t,u,y⟩:=l i c r;exact⟨v,s,t,u.mono a,y.kept a hk (e i)⟩
variable {a:Act}
theorem x8.kept{env:Env}{t:Nat}{e:cW}(h:x8 P g env a w t e)
  (c:GhLe g g')(hk:Kept g w g' w' K)(j:K (.var t))(U:K (.ee t))(k:∀i,K (.eJ t i)):x8 P g' env a w' t e:=by
 cases e with
 |v x=>obtain⟨v,d,f,l⟩:=h;exact⟨v,d,f.mono c,l.kept c hk j⟩
 |b cs=>obtain⟨b,d,f⟩:=h;exact⟨b,d,f.kept c hk U k⟩
 |a u off=>exact h
variable {id:Nat}{es:List (AV×AV)}
theorem FF.kept{arr:List MapEntry}(h:FF P g w id es arr)
  (c:GhLe g g')(hk:Kept g w g' w' K)(d:∀i,K (.oc id i)):FF P g' w' id es arr:=by
 obtain⟨cX,f,j,k⟩:=h;refine⟨cX,f,j,fun i e m he hm=>?_⟩;obtain⟨l,p,q,r⟩:=k i e m he hm;exact⟨l.mono c,p,q.mono c,r.kept c hk (d _)⟩
theorem mz.kept(h:mz P g w id b n es)
  (d:GhLe g g')(hk:Kept g w g' w' K)(U:K (.bA id))(e:∀i,K (.oc id i)):mz P g' w' id b n es:=by
 obtain⟨arr,f,c,j,k⟩:=h;obtain⟨l,m,_⟩:=hk b (by rw[c];exact U);exact⟨arr,m.trans f,l.trans c,j.kept d hk e,k⟩
variable {since:Nat}{seen:List AV}
theorem FG.kept{bj:Nat}{c:List Nat}(h:FG w bj since seen c)(hk:w'.heap[bj]?=w.heap[bj]?):FG w' bj since seen c:=by
 obtain⟨L,d,U,e,f,i⟩:=h;exact⟨L,d,U,e,f,fun arr aE=>i arr (hk▸aE)⟩
theorem pw.kept{m:Option Nat}{o:Obj}(h:pw g w since seen m o)
  (e:GhLe g g')(hk:Kept g w g' w' K)(f:∀mid,m=some mid->K (.bA mid)):pw g' w' since seen m o:=by
 cases m with
 |none =>
  cases o<;>first|exact h|skip
  rename_i mp _ _ _;cases mp<;>exact h
 |some mid =>
  cases o<;>try exact h
  rename_i mp s t last;cases mp with
  |none=>exact h|some bj =>
   obtain⟨i,c,j,k,l,arr,n,p,q⟩:=h;obtain⟨r,d,_⟩:=hk bj (by rw[c];exact f mid rfl);exact⟨e.b4 _ _ i,r.trans c,j,k,l.kept d,arr,n,d.trans p,q⟩
theorem sd.kept{o:ax}(h:sd P g w id o)
  (c:GhLe g g')(hk:Kept g w g' w' K)(U:∀id,K (.bA id))(l:∀i,K (.oc id i)):sd P g' w' id o:=by
 cases o with
 |cells cs=>obtain⟨b,d,f⟩:=h;exact⟨b,c.b4 _ _ d,f.kept c hk (U id) l⟩
 |buf e cs =>
  obtain⟨b,k,d,f,j,⟨arr,p,s⟩,t⟩:=h;obtain⟨_,_,_,_,r,_⟩:=j;refine⟨b,k,c.b4 _ _ d,c.b4 _ _ f,iK.kept ⟨_,_,‹_›,‹_›,r,‹_›⟩ c hk (U id) l,⟨arr,?_,s⟩,t⟩;exact(hk b (by rw[r];exact U id)).2.1.trans p
 |map n es=>obtain⟨b,d,f⟩:=h;exact⟨b,c.b4 _ _ d,f.kept c hk (U id) l⟩
 |iter m since seen =>
  obtain⟨b,o,d,f,j,p⟩:=h;obtain⟨u,y,_⟩:=hk b (by rw[j];exact U id);exact⟨b,o,c.b4 _ _ d,y.trans f,u.trans j,p.kept c hk fun q _=>U q⟩
 |dead=>trivial
theorem sd.beside{p:Nat}{o:ax}(h:sd P g w p o)
  (c:GhLe g g')(hk:Kept g w g' w' K)(j:p≠id)(ae:g.b4 id=some b)(hm:∀arr n,w.heap[b]?≠some (.map arr n))(U:∀i,i≠id->K (.bA i))(r:∀i,K (.oc p i)):sd P g' w' p o:=by
 cases o with
 |cells cs=>obtain⟨b,d,f⟩:=h;exact⟨b,c.b4 _ _ d,f.kept c hk (U _ j) r⟩
 |buf e cs =>
  obtain⟨b,k,d,f,q,⟨arr,l,u⟩,y⟩:=h;obtain⟨_,_,_,_,s,_⟩:=q;refine⟨b,k,c.b4 _ _ d,c.b4 _ _ f,iK.kept ⟨_,_,‹_›,‹_›,s,‹_›⟩ c hk (U _ j) r,⟨arr,?_,u⟩,y⟩;exact(hk b (by rw[s];exact U _ j)).2.1.trans l
 |map n es=>obtain⟨b,d,f⟩:=h;exact⟨b,c.b4 _ _ d,f.kept c hk (U _ j) r⟩
 |iter m since seen =>
  obtain⟨t,o,d,f,q,l⟩:=h;obtain⟨z,A,_⟩:=hk t (by rw[q];exact U _ j);refine⟨t,o,c.b4 _ _ d,A.trans f,z.trans q,l.kept c hk fun B C=>U _ ?_⟩;rintro rfl;subst C;cases o<;>simp only[pw]at l;rename_i mp _ _ _;cases mp with
  |none=>exact l.elim|some bj=>grind
 |dead=>trivial
theorem Rel.later{gl:cp}{N:Nat}{s:an}(h:Rel P gl N g s a w)(d:GhLe g g')
  (hk:Kept g w g' w' K)(c:∀o,o≠.none->K o)(f:∀b off v,g'.γ b off=some v->w'.cell? ⟨b,off,none⟩=some v)
  (i:∀b,g'.bD b≠.none->b<w'.heap.size)(j:∀id b,g'.b4 id=some b->id<s.heap.length):Rel P gl N g' s a w' :=
 ⟨h.sorted,h.size,h.defers,fun t e he=>(h.env t e he).kept d hk (c _ (by simp)) (c _ (by simp)) (fun _=>c _ (by simp)),
  fun id o aA=>(h.heap id o aA).kept d hk (fun _=>c _ (by simp)) (fun _=>c _ (by simp)),f,i,fun n x ah=>(h.gz n x ah).mono d.γ,j⟩
namespace Env
def dQ(e:Env):Prop:=e.Pairwise fun p q=>p.1<q.1
theorem hp(e:Env)(t:Nat)(x:cW)(u:Nat):(e.ins t x).get u=if u=t then some x else e.get u:=by
 induction e with
 |nil=>simp[ins,get]|cons p r ih =>
  obtain⟨k,y⟩:=p;simp only[ins];split
  ·simp[get]
  ·split
   ·rename_i c U;subst U;by_cases h:u=t<;>simp[get,h]
   ·rename_i c U;simp only[get,ih];by_cases h:u=k
    ·simp[h,show ¬k=t from fun e=>U e.symm]
    ·simp[h]
theorem Rv(e:Env)(t u:Nat):(e.del t).get u=if u=t then none else e.get u:=by
 induction e with
 |nil=>simp[del,get]|cons p r ih =>
  obtain⟨k,y⟩:=p;simp only[del];split
  ·rename_i h;subst h;rw[ih];by_cases h:u=t<;>simp[get,h]
  ·rename_i h;simp only[get,ih];by_cases c:u=k
   ·grind
   ·simp[c]
variable {e:Env}{t:Nat}{x:cW}{p:Nat×cW}
theorem Rw(h:p∈e.ins t x):p=(t,x)\/p∈e:=by
 induction e with
 |nil=>simp[ins]at h;exact .inl h|cons q r ih =>
  obtain⟨k,y⟩:=q;simp only[ins]at h;split at h
  ·grind
  ·grind
theorem dQ.ins(h:e.dQ)(t:Nat)(x:cW):(e.ins t x).dQ:=by
 induction e with
 |nil=>simp[Env.ins,dQ]|cons p r ih =>
  obtain⟨k,y⟩:=p;have d:=aKg.1 h;simp only[Env.ins];split
  ·rename_i f;refine aKg.2 ⟨fun q c=>?_,h⟩;rcases List.mem_cons.1 c with rfl|c
   ·exact f
   ·exact Nat.lt_trans f (d.1 q c)
  ·split
   ·rename_i i U;subst U;exact aKg.2 ⟨d.1,d.2⟩
   ·rename_i i U;refine aKg.2 ⟨fun q c=>?_,ih d.2⟩;rcases Rw c with rfl|c
    ·simp only;omega
    ·exact d.1 q c
theorem ahq(h:p∈e.del t):p∈e:=by
 induction e with
 |nil=>simp[del]at h|cons q r ih =>
  obtain⟨k,y⟩:=q;simp only[del]at h;split at h
  ·exact aKh _ (ih h)
  ·grind
theorem dQ.del(h:e.dQ)(t:Nat):(e.del t).dQ:=by
 induction e with
 |nil=>simp[Env.del,dQ]|cons p r ih =>
  obtain⟨k,y⟩:=p;have c:=aKg.1 h;simp only[Env.del];split
  ·exact ih c.2
  ·exact aKg.2 ⟨fun q d=>c.1 q (ahq d),ih c.2⟩
theorem se(h:e.get t=some x):(t,x)∈e:=by
 induction e with
 |nil=>simp[get]at h|cons p r ih =>
  obtain⟨k,y⟩:=p;simp only[get]at h;split at h
  ·rename_i c;subst c;simp at h;simp[h]
  ·exact aKh _ (ih h)
theorem get_of_mem(az:e.dQ)(h:(t,x)∈e):e.get t=some x:=by
 induction e with
 |nil=>simp at h|cons p r ih =>
  obtain⟨k,y⟩:=p;have c:=aKg.1 az;simp only[get];rcases List.mem_cons.1 h with h|h
  ·simp at h;simp[h.1,h.2]
  ·have:=c.1 _ h;simp only at this;simp only[show ¬t=k from by omega,if_false];exact ih c.2 h
variable {bu:List Nat}
theorem FJ(h:p∈e.close bu):p∈e/\∀u off,p.2≠.a u off:=by
 induction e with
 |nil=>simp[close]at h|cons q r ih =>
  obtain⟨k,y⟩:=q;cases y with
  |a u off =>
   simp only[close]at h;exact⟨aKh _ (ih h).1,(ih h).2⟩
  |v x =>
   simp only[close]at h;split at h
   ·grind
   ·grind
  |b cs =>
   simp only[close]at h;split at h
   ·grind
   ·grind
theorem dQ.close(h:e.dQ)(bu:List Nat):(e.close bu).dQ:=by
 induction e with
 |nil=>simp[Env.close,dQ]|cons p r ih =>
  obtain⟨k,y⟩:=p;have c:=aKg.1 h;cases y with
  |a u off=>exact ih c.2|v x =>
   simp only[Env.close];split
   ·exact ih c.2
   ·exact aKg.2 ⟨fun q d=>c.1 q (FJ d).1,ih c.2⟩
  |b cs =>
   simp only[Env.close];split
   ·exact ih c.2
   ·exact aKg.2 ⟨fun q d=>c.1 q (FJ d).1,ih c.2⟩
theorem ahr(az:e.dQ){u:Nat}(h:(e.close bu).get u=some x):e.get u=some x/\∀v off,x≠.a v off :=
 ⟨get_of_mem az (FJ (se h)).1,(FJ (se h)).2⟩
end Env
open Go
def cP(x:AV):Prop:=∀e sz xs,x≠.list (some e) sz xs
theorem cP.aW(x:AV):cP x.aW:=fun e sz xs h=>by cases x<;>simp[AV.aW]at h
theorem cP.none(sz:Nat)(xs:List AV):cP (.list none sz xs):=fun _ _ _ h=>by simp at h
theorem cP.gb(h:cP x):e6 P g w o x v:=.lU h
theorem bb.aW(h:bb g x v):bb g x.aW v:=by
 cases x<;>try exact h
 rename_i own sz xs;cases own with
 |none=>exact h|some e=>cases h with
  |own _ _ _ _ h=>exact .pure _ _ h|pure _ _ h=>cases h
theorem sf{d:Nat}(hd:d<a.tmps.size)(v:Value)(t:Nat):(a.put (some d) v).tmps[t]?=if t=d then some v else a.tmps[t]?:=by
 simp only[Act.put];by_cases h:t=d
 ·subst h;simp[hd]
 ·grind
structure kH(s:an)(x:ey):Prop where
 var:∀t y,x=.var t->s.env.get t=some (.v y)->cP y
 eJ:∀t i cs c,x=.eJ t i->s.env.get t=some (.b cs)->cs[i]?=some c->cP c
 oc:∀(id i:Nat)cs c,x=.oc id i->(s.heap[id]?=some (.cells cs)\/∃e,s.heap[id]?=some (.buf e cs))->cs[i]?=some c->cP c
 FK:∀(id i:Nat)n es,x=.oc id i->s.heap[id]?=some (.map n es)->∀e∈es,cP e.2
 ee:∀t,x≠.ee t
 bA:∀id,x≠.bA id
theorem kH.none(s:an):kH s .none:=⟨by simp,by simp,by simp,by simp,by simp,by simp⟩
section
variable {P:Program}{gl:cp}{N:Nat}{g g':bo}{s s':an}{a:Act}{w w':World}
theorem e6.ya(h:e6 P g w o x v)(c:GhLe g g')(hk:Kept g w g' w' K)(aA:K o\/cP x):e6 P g' w' o x v:=by
 rcases aA with aA|aA
 ·exact h.kept c hk aA
 ·exact aA.gb
variable {cs:List AV}
theorem iK.ya{oc:Nat->ey}(h:iK P g w b o oc cs)
  (d:GhLe g g')(hk:Kept g w g' w' K)(aA:K o)(j:∀i c,cs[i]?=some c->K (oc i)\/cP c):iK P g' w' b o oc cs:=by
 obtain⟨arr,k,l,U,e,m,p⟩:=h;obtain⟨q,r,t⟩:=hk b (by rw[e];exact aA);refine⟨arr,k,r.trans l,U,q.trans e,fun off=>(t off).trans (m off),fun i c f=>?_⟩;obtain⟨v,u,y,z,A⟩:=p i c f;exact⟨v,u,y,z.mono d,A.ya d hk (j i c f)⟩
theorem Rel.step(h:Rel P gl N g s a w)(x:ey)(ah:kH s x)(d:GhLe g g')(hk:Kept g w g' w' fun o=>o≠.none/\o≠x)
  (G:∀b off v,g'.γ b off=some v->w'.cell? ⟨b,off,none⟩=some v)
  (H:∀b,g'.bD b≠.none->b<w'.heap.size)(J:∀id b,g'.b4 id=some b->id<s.heap.length):Rel P gl N g' s a w':=by
 refine⟨h.sorted,h.size,h.defers,fun t e he=>?_,fun id o aA=>?_,G,H,fun n x ah=>(h.gz n x ah).mono d.γ,J⟩
 ·have q:=h.env t e he;cases e with
  |v y =>
   obtain⟨v,j,l,p⟩:=q;refine⟨v,j,l.mono d,p.ya d hk ?_⟩;by_cases f:x=.var t
   ·exact .inr (ah.var t y f he)
   ·exact .inl ⟨by simp,fun e=>f e.symm⟩
  |b cs =>
   obtain⟨b,j,l⟩:=q;refine⟨b,j,l.ya d hk ⟨by simp,fun e=>ah.ee t e.symm⟩ fun i c r=>?_⟩;by_cases f:x=.eJ t i
   ·exact .inr (ah.eJ t i cs c f he r)
   ·exact .inl ⟨by simp,fun e=>f e.symm⟩
  |a u off=>exact q
 ·have q:=h.heap id o aA;cases o with
  |cells cs =>
   obtain⟨b,j,l⟩:=q;refine⟨b,d.b4 _ _ j,l.ya d hk ⟨by simp,fun e=>ah.bA id e.symm⟩ fun i c r=>?_⟩;by_cases f:x=.oc id i
   ·exact .inr (ah.oc id i cs c f (.inl aA) r)
   ·exact .inl ⟨by simp,fun e=>f e.symm⟩
  |buf e cs =>
   obtain⟨b,k,j,l,p,⟨arr,z,A⟩,L⟩:=q;have B:g.bD b=.bA id:=p.choose_spec.choose_spec.2.2.1;refine⟨b,k,d.b4 _ _ j,d.b4 _ _ l,p.ya d hk ⟨by simp,fun e=>ah.bA id e.symm⟩ fun i c r=>?_,⟨arr,?_,A⟩,L⟩
   ·by_cases f:x=.oc id i
    ·exact .inr (ah.oc id i cs c f (.inr ⟨e,aA⟩) r)
    ·exact .inl ⟨by simp,fun e=>f e.symm⟩
   ·exact(hk b (by rw[B];exact⟨by simp,fun e=>ah.bA id e.symm⟩)).2.1.trans z
  |map n es =>
   obtain⟨b,j,arr,l,p,⟨cX,F,O,Q⟩,A⟩:=q;obtain⟨C,D,_⟩:=hk b (by rw[p];exact⟨by simp,fun e=>ah.bA id e.symm⟩);refine⟨b,d.b4 _ _ j,arr,D.trans l,C.trans p,⟨cX,F,O,fun i e m he hm=>?_⟩,A⟩;obtain⟨R,S,B,T⟩:=Q i e m he hm;refine⟨R.mono d,S,B.mono d,T.ya d hk ?_⟩;by_cases f:x=.oc id m.born
   ·exact .inr (ah.FK id m.born n es f aA e (F.mem_iff.1 (List.mem_of_getElem? he)))
   ·exact .inl ⟨by simp,fun e=>f e.symm⟩
  |iter m since seen =>
   obtain⟨b,o,j,l,p,z⟩:=q;obtain⟨C,D,_⟩:=hk b (by rw[p];exact⟨by simp,fun e=>ah.bA id e.symm⟩);exact⟨b,o,d.b4 _ _ j,D.trans l,C.trans p,z.kept d hk fun E _=>⟨by simp,fun e=>ah.bA E e.symm⟩⟩
  |dead=>trivial
variable {env:Env}{d u:Nat}
theorem yb(h:eH env d=true)(c:env.get u=some (.b cs)):u≠d:=by
 rintro rfl;simp[eH,c]at h
theorem x8.other{j:Env}{t:Nat}{e:cW}(az:d<a.tmps.size)(i:t≠d)(h:x8 P g env a w t e)
  (ae:∀u cs,env.get u=some (.b cs)->(∃off,e=.a u off)->u≠d/\j.get u=some (.b cs)):x8 P g j (a.put (some d) v) w t e:=by
 cases e with
 |v x=>obtain⟨u,c,f,k⟩:=h;exact⟨u,by rw[sf az];simp[i,c],f,k⟩
 |b cs=>obtain⟨b,c,f⟩:=h;exact⟨b,by rw[sf az];simp[i,c],f⟩
 |a u off =>
  obtain⟨⟨cs,l⟩,b,c,f⟩:=h;obtain⟨m,U⟩:=ae u cs l ⟨off,rfl⟩;exact⟨⟨cs,U⟩,b,by rw[sf az];simp[i,c],by rw[sf az];simp[m,f]⟩
theorem Rel.put(h:Rel P gl N g s a w)(ao:s.put d x=some s')(hd:d<N)(j:bb g x v)(aA:e6 P g w (.var d) x v) :
  Rel P gl N g s' (a.put (some d) v) w:=by
 have az:d<a.tmps.size:=by rw[h.size];exact hd
 unfold an.put at ao;split at ao
 ·rename_i i;simp at ao;subst ao;refine⟨Env.dQ.ins h.sorted d _,by simp[Act.put,h.size],h.defers,fun t e he=>?_,h.heap,h.ff,h.own,h.gz,h.fE⟩;rw[Env.hp]at he;split at he
  ·rename_i c;subst c;simp at he;subst he;exact⟨v,by rw[sf az];simp,j,aA⟩
  ·rename_i c;exact(h.env t e he).other az c fun u cs f _=>⟨yb i f,by rw[Env.hp];simp[yb i f,f]⟩
 ·cases ao
variable {off:Nat}
theorem Rel.ahs(h:Rel P gl N g s a w)(f:eH s.env d=true)(hd:d<N)(c:s.env.get u=some (.b cs))
  (ae:a.tmps[u]?=some (ptrTo b 0)):Rel P gl N g { s with env:=s.env.ins d (.a u off) } (a.put (some d) (ptrTo b off)) w:=by
 have az:d<a.tmps.size:=by rw[h.size];exact hd
 refine⟨Env.dQ.ins h.sorted d _,by simp[Act.put,h.size],h.defers,fun t e he=>?_,h.heap,h.ff,h.own,h.gz,h.fE⟩;simp only at he ⊢;rw[Env.hp]at he;have j:=yb f c;split at he
 ·rename_i i;subst i;simp at he;subst he;exact⟨⟨cs,by rw[Env.hp];simp[j,c]⟩,b,by rw[sf az];simp,by rw[sf az];simp[j,ae]⟩
 ·rename_i i;exact(h.env t e he).other az i fun u cs c _=>⟨yb f c,by rw[Env.hp];simp[yb f c,c]⟩
theorem aht(h:lT env d=false)(c:env.get u=some (.a d off)):False:=by
 unfold lT at h;rw[List.any_eq_false]at h;have:=h _ (Env.se c);simp at this
theorem Rel.lh(h:Rel P gl N g s a w)(ao:s.lh d cs=some s')(hd:d<N)(ae:iK P g w b (.ee d) (.eJ d) cs) :
  Rel P gl N g s' (a.put (some d) (ptrTo b 0)) w:=by
 have az:d<a.tmps.size:=by rw[h.size];exact hd
 unfold an.lh at ao;split at ao
 ·cases ao
 rename_i cq;simp only[Bool.or_eq_true,not_or,Bool.not_eq_true]at cq;obtain⟨cq,_⟩:=cq;simp only[Option.some.injEq]at ao;subst ao;refine⟨Env.dQ.ins h.sorted d _,by simp[Act.put,h.size],h.defers,fun t e he=>?_,h.heap,h.ff,h.own,h.gz,h.fE⟩;simp only at he ⊢;rw[Env.hp]at he;split at he
 ·rename_i c;subst c;simp at he;subst he;exact⟨b,by rw[sf az];simp,ae⟩
 ·rename_i c;refine(h.env t e he).other az c fun u cs f ⟨off,i⟩=>?_;have cc:u≠d:=fun e=>aht cq (by rw[he,i,e]);exact⟨cc,by rw[Env.hp];simp[cc,f]⟩
theorem Rel.forget(h:Rel P gl N g s a w)(f:eH s.env d=true)(hd:d<N) :
  Rel P gl N g { s with env:=s.env.del d } (a.put (some d) v) w:=by
 have az:d<a.tmps.size:=by rw[h.size];exact hd
 refine⟨Env.dQ.del h.sorted d,by simp[Act.put,h.size],h.defers,fun t e he=>?_,h.heap,h.ff,h.own,h.gz,h.fE⟩;simp only at he ⊢;rw[Env.Rv]at he;split at he
 ·cases he
 ·rename_i i;exact(h.env t e he).other az i fun u cs c _=>⟨yb f c,by rw[Env.Rv];simp[yb f c,c]⟩
theorem Rel.close(h:Rel P gl N g s a w)(bu:List Nat):Rel P gl N g { s with env:=s.env.close bu } a w:=by
 refine⟨Env.dQ.close h.sorted bu,h.size,h.defers,fun t e he=>?_,h.heap,h.ff,h.own,h.gz,h.fE⟩;obtain⟨c,U⟩:=Env.ahr h.sorted he;have:=h.env t e c;cases e with
 |v x=>exact this|b cs=>exact this|a u off=>exact absurd rfl (U u off)
theorem Rel.strip(h:Rel P gl N g s a w){x e sz:Nat}{xs:List AV}(ah:s.env.get x=some (.v (.list (some e) sz xs))) :
  s.put x (.list none sz xs)=some { s with env:=s.env.ins x (.v (.list none sz xs)) }/\Rel P gl N g { s with env:=s.env.ins x (.v (.list none sz xs)) } a w:=by
 refine⟨by simp[an.put,eH,ah],Env.dQ.ins h.sorted x _,h.size,h.defers,fun t y he=>?_,h.heap,h.ff,h.own,h.gz,h.fE⟩;simp only at he ⊢;rw[Env.hp]at he;split at he
 ·rename_i i;subst i;simp at he;subst he;obtain⟨v,j,k,l⟩:=h.env t _ ah;exact⟨v,j,k.aW,cP.gb (cP.none _ _)⟩
 ·rename_i i;have c:=h.env t y he;cases y with
  |v y=>exact c|b cs=>exact c|a u off =>
   obtain⟨⟨cs,f⟩,p⟩:=c;refine⟨⟨cs,?_⟩,p⟩;rw[Env.hp];have:u≠x:=by rintro rfl;rw[ah]at f;simp at f
   simp[this,f]
end
end AM
