/- An abstract machine for the program of the seat, and what of the given program it does, part 1 of 16. Conditions: none. -/
import Derived.Orders
import Derived.Laws.AppendOwn
/-! The abstract machine: values as data, local boxes, growable lists with one owner; its operations and its code. Conditions: none; definitions alone. -/
namespace AM
open Go

/-- The greatest length of a list or string that the abstract machine handles. -/
def M : Nat := 1099511627776

/-- Abstract values. -/
inductive AV where
  | bool (b : Bool)
  | int (k : IntKind) (n : Int)
  | str (s : List UInt8)
  | nilp
  | ptr (id off : Nat)
  | cptr (cs : List AV)
  | list (own : Option Nat) (sz : Nat) (xs : List AV)
  | map (id : Nat)
  | nilm
  | fn (f : Nat) (caps : List AV)
  | nilf
  | nili
  | nils (sz : Nat)
  | nilc (sz : Nat)
  | sl (id off n sz : Nat)
  | agg (cs : List AV)
  | tup (vs : List AV)
  deriving Inhabited

namespace AV
def cells : AV → List AV
  | .agg cs => cs
  | v => [v]
/-- A copy owns nothing. -/
def noOwn : AV → AV
  | .list _ sz xs => .list none sz xs
  | v => v
/-- A list's size of elements, and its elements. -/
def lst : AV → Option (Nat × List AV)
  | .list _ sz xs => some (sz, xs)
  | .nils sz => some (sz, [])
  | _ => none
/-- The same, or a string's bytes. -/
def lstB : Bool → AV → Option (Nat × List AV)
  | true, .str b => some (1, b.map fun c => .int .u8 c.toNat)
  | true, _ => none
  | false, v => v.lst
/-- One cell of plain data. -/
def pure1 : AV → Bool
  | .bool _ | .int _ _ | .str _ | .nilp | .nilm | .nilf | .nili | .nils _ | .cptr _ => true
  | .list none _ _ => true
  | _ => false
/-- Plain data. -/
def pure : AV → Bool
  | .agg cs => cs.all pure1
  | v => v.pure1
/-- One cell. -/
def one : AV → Bool
  | .agg _ | .tup _ => false
  | _ => true
end AV

/-- What a temporary holds: a value, a box of cells of this frame, or an address within a box. -/
inductive Ent where
  | v (x : AV)
  | b (cs : List AV)
  | a (t off : Nat)
  deriving Inhabited

/-- Objects of the abstract heap. -/
inductive AObj where
  | cells (cs : List AV)
  | buf (e : Nat) (cs : List AV)
  | map (n : Nat) (es : List (AV × AV))
  | iter (m : Option Nat) (since : Nat) (seen : List AV)
  | dead
  deriving Inhabited

abbrev Env := List (Nat × Ent)

structure St where
  env : Env
  heap : List AObj

namespace Env
def get : Env → Nat → Option Ent
  | [], _ => none
  | (k, e) :: r, t => if t = k then some e else get r t
def ins : Env → Nat → Ent → Env
  | [], t, e => [(t, e)]
  | (k, e') :: r, t, e => if t < k then (t, e) :: (k, e') :: r else if t = k then (t, e) :: r else (k, e') :: ins r t e
def del : Env → Nat → Env
  | [], _ => []
  | (k, e) :: r, t => if t = k then del r t else (k, e) :: del r t
/-- Without the addresses within the box of t. -/
def noAddr : Env → Nat → Env
  | [], _ => []
  | (k, .a u off) :: r, t => if u = t then noAddr r t else (k, .a u off) :: noAddr r t
  | (k, e) :: r, t => (k, e) :: noAddr r t
/-- At a region's end: without some temporaries, and without addresses within boxes. -/
def close : Env → List Nat → Env
  | [], _ => []
  | (_, .a _ _) :: r, ts => close r ts
  | (k, e) :: r, ts => if ts.contains k then close r ts else (k, e) :: close r ts
end Env

/-- Operands. -/
inductive Opd where
  | t (n : Nat)
  | c (x : AV)
  | f (n : Nat)
  | g (n : Nat)
  deriving Inhabited

/-- Operations. -/
inductive SOp where
  | mv (d : Nat) (x : Opd)
  | tk (d x : Nat)
  | nil_ (d e sz : Nat)
  | pick (d : Nat) (c a b : Opd)
  | bin (d m : Nat) (op : BinOp) (x y : Opd)
  | eqa (d : Nat) (ne : Bool) (ks : List Nat) (x y : Opd)
  | not_ (d : Nat) (x : Opd)
  | neg (d : Nat) (x : Opd)
  | conv (d : Nat) (k : IntKind) (x : Opd)
  | ext (d x i : Nat)
  | len (d m : Nat) (x : Opd)
  | alloc (d : Nat) (z : List AV)
  | box (d : Nat) (x : Opd)
  | allocH (d : Nat) (z : List AV)
  | boxH (d : Nat) (x : Opd)
  | boxI (d : Nat) (x : Opd)
  | build (d : Nat) (z : List AV) (parts : List (Nat × Nat × Opd))
  | lit (d sz : Nat) (xs : List Opd)
  | fa (d : Nat) (x : Opd) (off : Nat)
  | ia (d sz : Nat) (x i : Opd)
  | iaa (d : Nat) (x : Opd) (n sz : Nat) (i : Opd)
  | ld (d : Nat) (x : Opd) (n : Nat) (ag : Bool)
  | ldt (d : Nat) (x : Opd) (e sz : Nat)
  | st (n : Nat) (x v : Opd)
  | stt (x : Opd) (v : Nat)
  | idx (d : Nat) (x i : Opd)
  | slc (d sz : Nat) (x : Opd) (lo hi : Option Opd)
  | sla (d : Nat) (x : Opd) (n sz : Nat) (lo hi : Option Opd)
  | app (d s : Nat) (x : Opd) (e sz : Nat)
  | nilchk (d : Nat) (x : Opd)
  | mkfn (d f : Nat) (caps : List Opd)
  | mkself (d : Nat) (c : Opd) (e sz : Nat)
  | allocT (d e : Nat) (z : List AV)
  | cvt (d : Nat) (x : Opd) (e sz : Nat)
  | mm (d : Nat) (mx : Bool) (x y : Opd)
  | mkmap (d : Nat)
  | look (ks : List Nat) (d : Nat) (m k : Opd) (zero : AV) (ok : Bool)
  | lookT (ks : List Nat) (d : Nat) (m k : Opd) (zero : AV)
  | upd (ks : List Nat) (m k v : Opd)
  | updT (ks : List Nat) (m k : Opd) (v : Nat)
  | mdel (ks : List Nat) (d : Option Nat) (m k : Opd)
  | rng (d : Nat) (m : Opd)
  | nxt (d : Nat) (it : Opd)
  | entr (d : Nat) (it : Opd)
  | litH (d e sz : Nat) (xs : List Opd)
  | litO (d e sz : Nat) (xs : List Opd)
  | mks (d e : Nat) (z : List AV) (x : Opd)
  | apph (d e sz : Nat) (sb : Bool) (u x : Opd)
  | appc (d u : Nat) (x : Opd) (e sz : Nat)
  | appd (d u : Nat) (x : Opd) (e sz : Nat)
  | isnil (d : Nat) (ne : Bool) (x : Opd)
  | clo (d : Nat) (x : Opd) (sz : Nat)
  | sdata (d : Nat) (x : Opd)
  | ustr (d e : Nat) (x n : Opd)
  | noesc (d f : Nat) (x : Opd)
  | cmps (d f : Nat) (x y : Opd)
  | on (m : Nat) (o : SOp)
  | bad (d : Option Nat)
  | callR (d : Option Nat) (f : Nat) (xs : List Opd)
  | callG (d : Option Nat) (f u : Nat) (xs : List Opd)
  | callP (d : Option Nat) (f : Nat) (xs : List Opd)
  | callI (d : Option Nat) (f : Nat) (xs : List Opd)
  | callV (d : Option Nat) (x : Opd) (xs : List Opd)
  deriving Inhabited

/-- An operation with its guard: a temporary and what it must hold. -/
structure It where
  g : Option (Nat × Bool)
  o : SOp

inductive SCode where
  | skip
  | reg (its : List It) (drops : List Nat)
  | seq (a b : SCode)
  | cond (c : Opd) (a b : SCode)
  | block (id : Nat) (c : SCode)
  | loop (c : SCode)
  | exit (id : Nat)
  | ret
  /-- ghost: the list or string in t is no longer than M -/
  | asm (t : Nat) (c : SCode)
  /-- ghost: forget temporaries -/
  | drop (ts : List Nat) (c : SCode)
  /-- ghost: the heap slice in t becomes immutable -/
  | frz (t e sz : Nat) (c : SCode)
  | frzb (t off e sz : Nat) (c : SCode)
  /-- ghost: the object at t is not used any more -/
  | kill (t : Nat) (c : SCode)
  /-- code that is not reached -/
  | bad

inductive Ex where
  | normal | exit (id : Nat) | ret

/-- What the constants of the context are: the immutable cells of global variables. -/
abbrev Glob := Nat → Option AV

section
variable (gl : Glob)
def evO (env : Env) : Opd → Option AV
  | .t n => match Env.get env n with | some (.v x) => some x | _ => none
  | .c x => some x
  | .f n => some (.fn n [])
  | .g n => gl n
def evOs (env : Env) : List Opd → Option (List AV)
  | [] => some []
  | x :: r => match evO gl env x, evOs env r with | some v, some vs => some (v :: vs) | _, _ => none
/-- Boxes and addresses are not overwritten. -/
def okPut (env : Env) (d : Nat) : Bool := match Env.get env d with | some (.b _) => false | some (.a _ _) => false | _ => true
/-- There is an address within the box of d. -/
def hasA (env : Env) (d : Nat) : Bool := env.any fun p => match p.2 with | .a u _ => u == d | _ => false
def isA (env : Env) (d : Nat) : Bool := match Env.get env d with | some (.a _ _) => true | _ => false
def St.put (s : St) (d : Nat) (x : AV) : Option St := if okPut s.env d then some { s with env := s.env.ins d (.v x) } else none
def St.putB (s : St) (d : Nat) (cs : List AV) : Option St := if hasA s.env d || isA s.env d then none else some { s with env := s.env.ins d (.b cs) }
def St.putO (s : St) (d : Option Nat) (x : AV) : Option St := match d with | some d => s.put d x | none => some s

/-- Addresses. -/
inductive Adr where
  | bx (t off : Nat)
  | hp (id off : Nat)
  | im (cs : List AV)
def adr (env : Env) : Opd → Option Adr
  | .t n => match Env.get env n with
    | some (.b _) => some (.bx n 0)
    | some (.a t off) => some (.bx t off)
    | some (.v (.ptr id off)) => some (.hp id off)
    | some (.v (.cptr cs)) => some (.im cs)
    | _ => none
  | .g n => match gl n with | some (.cptr cs) => some (.im cs) | _ => none
  | _ => none
/-- n cells at an address. -/
def rdAt (s : St) (n : Nat) : Adr → Option (List AV)
  | .bx t off => match Env.get s.env t with
    | some (.b cs) => if off + n ≤ cs.length then some ((cs.drop off).take n) else none
    | _ => none
  | .hp id off => match s.heap[id]? with
    | some (.cells cs) => if off + n ≤ cs.length then some ((cs.drop off).take n) else none
    | some (.buf _ cs) => if off + n ≤ cs.length then some ((cs.drop off).take n) else none
    | _ => none
  | .im cs => if n ≤ cs.length then some (cs.take n) else none
def setCells : List AV → Nat → List AV → List AV
  | cs, _, [] => cs
  | cs, off, v :: r => setCells (cs.set off v) (off + 1) r
def wrAt (s : St) (vs : List AV) : Adr → Option St
  | .bx t off => match Env.get s.env t with
    | some (.b cs) => if off + vs.length ≤ cs.length then some { s with env := s.env.ins t (.b (setCells cs off vs)) } else none
    | _ => none
  | .hp id off => match s.heap[id]? with
    | some (.cells cs) => if off + vs.length ≤ cs.length then some { s with heap := s.heap.set id (.cells (setCells cs off vs)) } else none
    | some (.buf e cs) => if off + vs.length ≤ cs.length then some { s with heap := s.heap.set id (.buf e (setCells cs off vs)) } else none
    | _ => none
  | .im _ => none

def intBin (op : BinOp) (k : IntKind) (a b : Int) : Option AV :=
  match op with
  | .add => some (.int k (k.wrap (a + b)))
  | .sub => some (.int k (k.wrap (a - b)))
  | .mul => some (.int k (k.wrap (a * b)))
  | .quo => if b = 0 then none else some (.int k (k.wrap (a.tdiv b)))
  | .rem => if b = 0 then none else some (.int k (a.tmod b))
  | .eql => some (.bool (a == b))
  | .neq => some (.bool (a != b))
  | .lss => some (.bool (decide (a < b)))
  | .leq => some (.bool (decide (a ≤ b)))
  | .gtr => some (.bool (decide (a > b)))
  | .geq => some (.bool (decide (a ≥ b)))
  | _ => none
def strBin (op : BinOp) (a b : List UInt8) : Option AV :=
  match op with
  | .add => if a.length + b.length ≤ M then some (.str (a ++ b)) else none
  | .eql => some (.bool (a == b))
  | .neq => some (.bool (!(a == b)))
  | .lss => some (.bool (Op.bytesLess a b))
  | .leq => some (.bool (Op.bytesLess a b || a == b))
  | .gtr => some (.bool (!(Op.bytesLess a b || a == b)))
  | .geq => some (.bool (!(Op.bytesLess a b)))
  | _ => none
/-- Equality of one-cell data that can be compared. -/
def eq1 : AV → AV → Option Bool
  | .bool a, .bool b => some (a == b)
  | .int k a, .int k' b => if k = k' then some (a == b) else none
  | .str a, .str b => some (a == b)
  | _, _ => none
def eqs : List AV → List AV → Option Bool
  | [], [] => some true
  | x :: r, y :: r' => match eq1 x y, eqs r r' with | some a, some b => some (a && b) | _, _ => none
  | _, _ => none
/-- The kind of a scalar. -/
def knd : AV → Nat
  | .int _ _ => 0
  | .str _ => 1
  | .bool _ => 2
  | _ => 3
/-- Equality of structs of scalars of given kinds. -/
def eqsK : List Nat → List AV → List AV → Option Bool
  | [], [], [] => some true
  | k :: ks, x :: r, y :: r' => if knd x = k then (match eq1 x y, eqsK ks r r' with | some a, some b => some (a && b) | _, _ => none) else none
  | _, _, _ => none
/-- The mode: 0 numbers and strings, 2 pointers, 3 bools. -/
def binV (m : Nat) (op : BinOp) : AV → AV → Option AV
  | .int k a, .int k' b => if m = 0 ∧ k = k' then intBin op k a b else none
  | .str a, .str b => if m = 0 then strBin op a b else none
  | .bool a, .bool b => if m = 3 then (match op with | .eql => some (.bool (a == b)) | .neq => some (.bool (!(a == b))) | _ => none) else none
  | .nilp, .nilp => if m = 2 then (match op with | .eql => some (.bool true) | .neq => some (.bool false) | _ => none) else none
  | .nilp, .ptr _ _ => if m = 2 then (match op with | .eql => some (.bool false) | .neq => some (.bool true) | _ => none) else none
  | .ptr a o, .ptr a' o' => if m = 4 ∧ a = a' ∧ o = o' then (match op with | .eql => some (.bool true) | .neq => some (.bool false) | _ => none) else none
  | .ptr _ _, .nilp => if m = 2 then (match op with | .eql => some (.bool false) | .neq => some (.bool true) | _ => none) else none
  | _, _ => none
def fillParts (env : Env) : List AV → List (Nat × Nat × Opd) → Option (List AV)
  | z, [] => some z
  | z, (off, n, x) :: r => match evO gl env x with
    | some v => if v.cells.length = n ∧ off + n ≤ z.length ∧ v.cells.all AV.one then fillParts env (setCells z off (v.cells.map AV.noOwn)) r else none
    | none => none
/-- A number as a bound. -/
def bnd (env : Env) (dflt : Nat) : Option Opd → Option Int
  | none => some dflt
  | some x => match evO gl env x with | some (.int _ n) => some n | _ => none
/-- An array's cells as a list of elements of sz cells. -/
def chunk (sz : Nat) : Nat → List AV → List AV
  | 0, _ => []
  | n + 1, cs => (if sz = 1 then (cs.headD default) else .agg (cs.take sz)) :: chunk sz n (cs.drop sz)
def key1 : AV → Bool
  | .str _ => true
  | .int _ _ => true
  | .agg cs => cs.all fun | .str _ | .int _ _ | .bool _ => true | _ => false
  | _ => false
/-- A key of cells of given kinds (1 strings, 2 bools); one string as a plain key. -/
def keyFit (ks : List Nat) : AV → Bool
  | .str _ => ks == [1]
  | .agg cs => ks.length != 1 && ks.all (fun k => k == 1 || k == 2) && cs.map knd == ks
  | _ => false
/-- The first key of a map's entries fits. -/
def headFit (ks : List Nat) : List (AV × AV) → Bool
  | [] => true
  | (k, _) :: _ => keyFit ks k
def keyEq : AV → AV → Bool
  | .str a, .str b => a == b
  | .int k a, .int k' b => k == k' && a == b
  | .agg a, .agg b => eqs a b == some true
  | _, _ => false
def key1Lt : AV → AV → Bool
  | .str a, .str b => Op.bytesLess a b
  | .int _ a, .int _ b => decide (a < b)
  | .bool a, .bool b => !a && b
  | _, _ => false
def keysLt : List AV → List AV → Bool
  | x :: r, y :: r' => key1Lt x y || (eq1 x y == some true && keysLt r r')
  | _, _ => false
def keyLt : AV → AV → Bool
  | .agg a, .agg b => keysLt a b
  | x, y => key1Lt x y
def mapGet : List (AV × AV) → AV → Option AV
  | [], _ => none
  | (k, v) :: r, x => if keyEq x k then some v else mapGet r x
/-- The value at a key that is there. -/
def mapSet : List (AV × AV) → AV → AV → List (AV × AV)
  | [], _, _ => []
  | (k, u) :: r, x, v => if keyEq x k then (k, v) :: r else (k, u) :: mapSet r x v
/-- An entry that was not there. -/
def mapIns : List (AV × AV) → AV → AV → List (AV × AV)
  | [], x, v => [(x, v)]
  | (k, u) :: r, x, v => if keyLt x k then (x, v) :: (k, u) :: r else (k, u) :: mapIns r x v
def mapDel : List (AV × AV) → AV → List (AV × AV)
  | [], _ => []
  | (k, u) :: r, x => if keyEq x k then r else (k, u) :: mapDel r x
def mapPut (n : Nat) (es : List (AV × AV)) (k v : AV) : AObj := match mapGet es k with | some _ => .map n (mapSet es k v) | none => .map (n + 1) (mapIns es k v)
def bytesOf : List AV → Option (List UInt8)
  | [] => some []
  | .int .u8 n :: r => if 0 ≤ n ∧ n < 256 then (bytesOf r).map (UInt8.ofNat n.toNat :: ·) else none
  | _ => none
/-- The order of strings. -/
def cmpB : List UInt8 → List UInt8 → Int
  | [], [] => 0
  | [], _ :: _ => -1
  | _ :: _, [] => 1
  | a :: r, b :: t => if a = b then cmpB r t else if a < b then -1 else 1
/-- The kind of an address: 1 a box itself, 2 within a box, 3 none of them. -/
def adrKind (env : Env) : Opd → Nat
  | .t n => match Env.get env n with | some (.b _) => 1 | some (.a _ _) => 2 | some (.v (.cptr _)) => 3 | some (.v (.ptr _ _)) => 4 | _ => 0
  | .g _ => 3
  | _ => 0
def adrOf : SOp → Opd
  | .fa _ x _ | .ld _ x _ _ | .ldt _ x _ _ | .st _ x _ | .stt x _ | .nilchk _ x => x
  | _ => .c .nilp
/-- The candidates of a range. -/
def cands (H : List AObj) : AV → Option (Nat × Option Nat × Nat × List AV × List (AV × AV))
  | .ptr id 0 => match H[id]? with
    | some (.iter none since seen) => some (id, none, since, seen, [])
    | some (.iter (some mid) since seen) => match H[mid]? with
      | some (.map n es) => if n = since then some (id, some mid, since, seen, es.filter fun e => !seen.any (keyEq e.1)) else none
      | _ => none
    | _ => none
  | _ => none

/-- What an operation does that calls nothing. -/
def ev (s : St) : SOp → Option St
  | .mv d x => (evO gl s.env x).bind fun v => s.put d v.noOwn
  | .tk d x => match Env.get s.env x with
    | some (.v (.list (some e) sz xs)) => if d = x then none else (s.put x (.list none sz xs)).bind fun s => s.put d (.list (some e) sz xs)
    | some (.v v) => s.put d v.noOwn
    | _ => none
  | .nil_ d e sz => s.put d (.list (some e) sz [])
  | .pick d c a b => match evO gl s.env c with
    | some (.bool t) => if t = true then (evO gl s.env a).bind fun v => s.put d v.noOwn else (evO gl s.env b).bind fun v => s.put d v.noOwn
    | _ => none
  | .bin d m op x y => match evO gl s.env x, evO gl s.env y with
    | some a, some b => (binV m op a b).bind fun v => s.put d v
    | _, _ => none
  | .eqa d ne ks x y => match evO gl s.env x, evO gl s.env y with
    | some (.agg a), some (.agg b) => (eqsK ks a b).bind fun r => s.put d (.bool (if ne = true then !r else r))
    | _, _ => none
  | .not_ d x => match evO gl s.env x with | some (.bool b) => s.put d (.bool (!b)) | _ => none
  | .neg d x => match evO gl s.env x with | some (.int k n) => s.put d (.int k (k.wrap (0 - n))) | _ => none
  | .conv d k x => match evO gl s.env x with | some (.int _ n) => s.put d (.int k (k.wrap n)) | _ => none
  | .ext d x i => match Env.get s.env x with | some (.v (.tup vs)) => (vs[i]?).bind fun v => s.put d v.noOwn | _ => none
  | .len d m x => match evO gl s.env x with
    | some (.list _ _ xs) => if m = 1 then s.put d (.int .i64 xs.length) else none
    | some (.str b) => if m = 0 then s.put d (.int .i64 b.length) else none
    | some .nilm => if m = 2 then s.put d (.int .i64 0) else none
    | some (.nils _) => if m = 1 then s.put d (.int .i64 0) else none
    | some (.sl _ _ n _) => if m = 1 then s.put d (.int .i64 n) else none
    | some (.map id) => if m = 2 then (match s.heap[id]? with | some (.map _ es) => s.put d (.int .i64 es.length) | _ => none) else none
    | _ => none
  | .alloc d z => s.putB d z
  | .box d x => (evO gl s.env x).bind fun v => if v.cells.all AV.one then s.putB d (v.cells.map AV.noOwn) else none
  | .allocH d z => ({ s with heap := s.heap ++ [AObj.cells z] }).put d (.ptr s.heap.length 0)
  | .boxH d x => (evO gl s.env x).bind fun v => if v.cells.all AV.one then ({ s with heap := s.heap ++ [AObj.cells (v.cells.map AV.noOwn)] }).put d (.ptr s.heap.length 0) else none
  | .boxI d x => (evO gl s.env x).bind fun v => if v.cells.all AV.pure1 then s.put d (.cptr v.cells) else none
  | .build d z parts => (fillParts gl s.env z parts).bind fun cs => s.put d (.agg cs)
  | .lit d sz xs => (evOs gl s.env xs).bind fun vs =>
      if vs.all (fun v => v.noOwn.pure && v.cells.length == sz) && decide (vs.length ≤ 1000) then s.put d (.list none sz (vs.map AV.noOwn)) else none
  | .fa d x off => match adr gl s.env x with
    | some (.bx t o) => if okPut s.env d then some { s with env := s.env.ins d (.a t (o + off)) } else none
    | some (.hp id o) => s.put d (.ptr id (o + off))
    | some (.im cs) => if off ≤ cs.length then s.put d (.cptr (cs.drop off)) else none
    | none => none
  | .ia d sz x i => match evO gl s.env x, evO gl s.env i with
    | some (.list _ sz' xs), some (.int _ n) => if sz' = sz ∧ 0 ≤ n ∧ n < xs.length then (xs[n.toNat]?).bind fun v => s.put d (.cptr v.cells) else none
    | some (.sl id off m sz'), some (.int _ n) => if sz' = sz ∧ 0 ≤ n ∧ n < m then s.put d (.ptr id (off + n.toNat * sz)) else none
    | _, _ => none
  | .iaa d x n sz i => match adr gl s.env x, evO gl s.env i with
    | some (.bx t o), some (.int _ k) => if 0 ≤ k ∧ k < n ∧ okPut s.env d = true then some { s with env := s.env.ins d (.a t (o + k.toNat * sz)) } else none
    | some (.hp id o), some (.int _ k) => if 0 ≤ k ∧ k < n then s.put d (.ptr id (o + k.toNat * sz)) else none
    | some (.im cs), some (.int _ k) => if 0 ≤ k ∧ k < n ∧ n * sz ≤ cs.length then s.put d (.cptr (cs.drop (k.toNat * sz))) else none
    | _, _ => none
  | .ld d x n ag => (adr gl s.env x).bind fun p => (rdAt s n p).bind fun cs =>
      if ag = true then s.put d (.agg (cs.map AV.noOwn)) else match cs with | [v] => s.put d v.noOwn | _ => none
  | .ldt d x e sz => (adr gl s.env x).bind fun p => (rdAt s 1 p).bind fun cs => match cs with
      | [.list (some e) sz xs] => (wrAt s [.list none sz xs] p).bind fun s => s.put d (.list (some e) sz xs)
      | [.nils _] => s.put d (.list (some e) sz [])
      | _ => none
  | .st n x v => (adr gl s.env x).bind fun p => (evO gl s.env v).bind fun v => if v.cells.length = n ∧ v.cells.all AV.one then wrAt s (v.cells.map AV.noOwn) p else none
  | .stt x v => (adr gl s.env x).bind fun p => match Env.get s.env v with
      | some (.v (.list (some e) sz xs)) => (s.put v (.list none sz xs)).bind fun s => wrAt s [.list (some e) sz xs] p
      | _ => none
  | .idx d x i => match evO gl s.env x, evO gl s.env i with
    | some (.str b), some (.int _ n) => if 0 ≤ n then (b[n.toNat]?).bind fun c => s.put d (.int .u8 c.toNat) else none
    | _, _ => none
  | .slc d szz x lo hi => match evO gl s.env x with
    | some (.str b) => match bnd gl s.env 0 lo, bnd gl s.env b.length hi with
      | some l, some h => if szz = 0 ∧ 0 ≤ l ∧ l ≤ h ∧ h ≤ b.length then s.put d (.str ((b.take h.toNat).drop l.toNat)) else none
      | _, _ => none
    | some (.list _ sz xs) => match bnd gl s.env 0 lo, bnd gl s.env xs.length hi with
      | some l, some h => if szz = sz ∧ sz ≠ 0 ∧ 0 ≤ l ∧ l ≤ h ∧ h ≤ xs.length then s.put d (.list none sz ((xs.take h.toNat).drop l.toNat)) else none
      | _, _ => none
    | some (.nils sz) => match bnd gl s.env 0 lo, bnd gl s.env 0 hi with
      | some l, some h => if szz = sz ∧ sz ≠ 0 ∧ l = 0 ∧ h = 0 then s.put d (.nils sz) else none
      | _, _ => none
    | some (.sl id off n sz) => match bnd gl s.env 0 lo, bnd gl s.env n hi with
      | some l, some h => if szz = sz ∧ sz ≠ 0 ∧ 0 ≤ l ∧ l ≤ h ∧ h ≤ n then (if 0 < l ∧ l = h then s.put d (.list none sz []) else s.put d (.sl id (off + l.toNat * sz) (h.toNat - l.toNat) sz)) else none
      | _, _ => none
    | _ => none
  | .sla d x n sz lo hi => match adr gl s.env x with
    | some (.im cs) => if cs.length = n * sz ∧ n ≤ 1000 then match bnd gl s.env 0 lo, bnd gl s.env n hi with
      | some l, some h => if 0 ≤ l ∧ l ≤ h ∧ h ≤ n then s.put d (.list none sz (((chunk sz n cs).take h.toNat).drop l.toNat)) else none
      | _, _ => none
      else none
    | _ => none
  | .app d u x e sz => match Env.get s.env u, (evO gl s.env x).bind AV.lst with
    | some (.v (.list (some e') sz' xs)), some (sz'', ys) =>
      if e' = e ∧ sz' = sz ∧ sz'' = sz ∧ d ≠ u ∧ xs.length + ys.length ≤ M then
        (s.put u (.list none sz xs)).bind fun s => s.put d (.list (some e) sz (xs ++ ys)) else none
    | some (.v (.nils sz')), some (sz'', ys) => if sz' = sz ∧ sz'' = sz ∧ d ≠ u ∧ ys.length ≤ M then s.put d (.list (some e) sz ys) else none
    | _, _ => none
  | .nilchk d x => match x with
    | .t n => match Env.get s.env n with
      | some (.b _) => if okPut s.env d then some { s with env := s.env.ins d (.a n 0) } else none
      | some (.a t off) => if okPut s.env d then some { s with env := s.env.ins d (.a t off) } else none
      | some (.v (.ptr id off)) => s.put d (.ptr id off)
      | some (.v (.cptr cs)) => s.put d (.cptr cs)
      | _ => none
    | _ => none
  | .mkfn d f caps => (evOs gl s.env caps).bind fun vs => if vs.all AV.one then s.put d (.fn f (vs.map AV.noOwn)) else none
  | .mkself d c e sz => match evO gl s.env c with
    | some (.int _ n) => if 0 ≤ n ∧ n ≤ M then s.put d (.list (some e) sz []) else none
    | _ => none
  | .allocT d e z => ({ s with heap := s.heap ++ [AObj.buf e z, .dead] }).put d (.ptr s.heap.length 0)
  | .cvt d x e sz => match evO gl s.env x with
    | some (.ptr id 0) => (match s.heap[id]? with | some (.buf e' cs) => if e' = e ∧ sz ≤ cs.length then s.put d (.ptr id 0) else none | _ => none)
    | _ => none
  | .mm d mx x y => match evO gl s.env x, evO gl s.env y with
    | some (.int k a), some (.int _ b) => s.put d (.int k (if mx = true then (if b > a then b else a) else (if b < a then b else a)))
    | _, _ => none
  | .mkmap d => ({ s with heap := s.heap ++ [AObj.map 0 []] }).put d (.map s.heap.length)
  | .look ks d m k zero ok => match evO gl s.env m, evO gl s.env k with
    | some (.map id), some kk => match s.heap[id]? with
      | some (.map _ es) => if keyFit ks kk && headFit ks es then
          (match mapGet es kk with
           | some v => s.put d (if ok = true then .tup [v.noOwn, .bool true] else v.noOwn)
           | none => s.put d (if ok = true then .tup [zero, .bool false] else zero)) else none
      | _ => none
    | some .nilm, some kk => if keyFit ks kk then s.put d (if ok = true then .tup [zero, .bool false] else zero) else none
    | _, _ => none
  | .lookT ks d m k zero => match evO gl s.env m, evO gl s.env k with
    | some (.map id), some kk => match s.heap[id]? with
      | some (.map n es) => if keyFit ks kk && headFit ks es then
          (match mapGet es kk with
           | some (.list (some e) sz xs) => ({ s with heap := s.heap.set id (.map n (mapSet es kk (.list none sz xs))) }).put d (.list (some e) sz xs)
           | some _ => none
           | none => s.put d zero) else none
      | _ => none
    | _, _ => none
  | .upd ks m k v => match evO gl s.env m, evO gl s.env k, evO gl s.env v with
    | some (.map id), some kk, some v => match s.heap[id]? with
      | some (.map n es) => if keyFit ks kk && headFit ks es then some { s with heap := s.heap.set id (mapPut n es kk v.noOwn) } else none
      | _ => none
    | _, _, _ => none
  | .updT ks m k v => match evO gl s.env m, evO gl s.env k, Env.get s.env v with
    | some (.map id), some kk, some (.v (.list (some e) sz xs)) => match s.heap[id]? with
      | some (.map n es) => if keyFit ks kk && headFit ks es then ({ s with heap := s.heap.set id (mapPut n es kk (.list (some e) sz xs)) }).put v (.list none sz xs) else none
      | _ => none
    | _, _, _ => none
  | .mdel ks d m k => match evO gl s.env m, evO gl s.env k with
    | some (.map id), some kk => match s.heap[id]? with
      | some (.map n es) => if keyFit ks kk && headFit ks es then ({ s with heap := s.heap.set id (.map n (mapDel es kk)) }).putO d (.tup []) else none
      | _ => none
    | _, _ => none
  | .rng d m => match evO gl s.env m with
    | some (.map id) => match s.heap[id]? with
      | some (.map n _) => ({ s with heap := s.heap ++ [AObj.iter (some id) n []] }).put d (.ptr s.heap.length 0)
      | _ => none
    | some .nilm => ({ s with heap := s.heap ++ [AObj.iter none 0 []] }).put d (.ptr s.heap.length 0)
    | _ => none
  | .entr d it => match evO gl s.env it with
    | some (.ptr id 0) => match s.heap[id]? with
      | some (.iter (some mid) since seen) => match s.heap[mid]?, seen.getLast? with
        | some (.map n es), some k => if n = since then (mapGet es k).bind fun v => s.put d (.tup [k, v.noOwn]) else none
        | _, _ => none
      | _ => none
    | _ => none
  | .litO d e sz xs => (evOs gl s.env xs).bind fun vs =>
      if vs.all (fun v => v.noOwn.pure && v.cells.length == sz) && decide (vs.length ≤ 1000) then s.put d (.list (some e) sz (vs.map AV.noOwn)) else none
  | .litH d e sz xs => (evOs gl s.env xs).bind fun vs =>
      if vs.all (fun v => v.cells.length == sz && v.cells.all AV.one) && decide (vs.length ≤ 1000) && sz != 0 then
        ({ s with heap := s.heap ++ [AObj.buf e (vs.map fun v : AV => v.cells.map AV.noOwn).flatten, .dead] }).put d (.sl s.heap.length 0 vs.length sz) else none
  | .mks d e z x => match evO gl s.env x with
    | some (.int _ n) => if 0 ≤ n ∧ n ≤ 100000 then ({ s with heap := s.heap ++ [AObj.buf e (List.replicate n.toNat z).flatten, .dead] }).put d (.sl s.heap.length 0 n.toNat z.length) else none
    | _ => none
  | .apph d e sz sb u x => match evO gl s.env u, (evO gl s.env x).bind (AV.lstB sb) with
    | some (.nils sz0), some (sz', ys) => if sz0 = sz ∧ sz' = sz ∧ ys.length ≤ M then match ys with
        | [] => s.put d (.nils sz)
        | _ :: _ => ({ s with heap := s.heap ++ [AObj.buf e (ys.map fun v : AV => v.cells.map AV.noOwn).flatten, .dead] }).put d (.sl s.heap.length 0 ys.length sz)
        else none
    | some (.sl id 0 n sz0), some (sz', ys) => match s.heap[id]? with
      | some (.buf e' cs) => if e' = e ∧ sz0 = sz ∧ sz' = sz ∧ n * sz ≤ cs.length ∧ n + ys.length ≤ M then
          ({ s with heap := s.heap.set id .dead ++ [AObj.buf e ((cs.take (n * sz)).map AV.noOwn ++ (ys.map fun v : AV => v.cells.map AV.noOwn).flatten), .dead] }).put d (.sl s.heap.length 0 (n + ys.length) sz) else none
      | _ => none
    | _, _ => none
  | .appc d u x e sz => match Env.get s.env u, (evO gl s.env x).bind AV.lst with
    | some (.v (.nilc sz')), some (sz'', ys) => if sz' = sz ∧ sz'' = sz ∧ ys.length ≤ M then match ys with
        | [] => s.put d (.list none sz [])
        | _ :: _ => s.put d (.list (some e) sz ys)
        else none
    | _, _ => none
  | .appd d u x e sz => match Env.get s.env u, (evO gl s.env x).bind AV.lst with
    | some (.v (.nilc sz')), some (sz'', ys) => if sz' = sz ∧ sz'' = sz ∧ ys.length ≤ M then match ys with
        | [] => s.put d (.list none sz [])
        | _ :: _ => ({ s with heap := s.heap ++ [AObj.buf e (ys.map fun v : AV => v.cells.map AV.noOwn).flatten, .dead] }).put d (.sl s.heap.length 0 ys.length sz)
        else none
    | _, _ => none
  | .isnil d ne x => match evO gl s.env x with
    | some (.nils _) => s.put d (.bool (!ne))
    | some (.list _ _ (_ :: _)) => s.put d (.bool ne)
    | _ => none
  | .clo d x sz => match evO gl s.env x with
    | some (.list _ sz' _) => if sz' = sz then s.put d (.nilc sz) else none
    | some (.nils sz') => if sz' = sz then s.put d (.nilc sz) else none
    | _ => none
  | .sdata d x => match evO gl s.env x with
    | some (.sl id off n _) => if 0 < n then s.put d (.ptr id off) else none
    | some (.nils _) => s.put d .nilp
    | _ => none
  | .ustr d e x n => match evO gl s.env x, evO gl s.env n with
    | some (.ptr id 0), some (.int .i64 n) => match s.heap[id]? with
      | some (.buf e' cs) => if e' = e ∧ 0 < n ∧ n ≤ cs.length ∧ n ≤ M then (bytesOf (cs.take n.toNat)).bind fun b => ({ s with heap := s.heap.set id .dead }).put d (.str b) else none
      | _ => none
    | some .nilp, some (.int .i64 n) => if n = 0 then s.put d (.str []) else none
    | _, _ => none
  | .noesc d _ x => (evO gl s.env x).bind fun v => s.put d v.noOwn
  | .cmps d _ x y => match evO gl s.env x, evO gl s.env y with
    | some (.str a), some (.str b) => s.put d (.int .i64 (cmpB a b))
    | _, _ => none
  | .on m o => if adrKind s.env (adrOf o) = m then ev s o else none
  | .bad _ => none
  | .nxt .. | .callR .. | .callG .. | .callP .. | .callI .. | .callV .. => none
end
end AM
/-! The relation between the abstract machine's states and the model's. -/
namespace AM
open Go

abbrev Gam := Nat → Nat → Option Value

mutual
/-- Plain data in immutable cells. -/
inductive PR (γ : Gam) : AV → Value → Prop where
  | bool (b : Bool) : PR γ (.bool b) (.bool b)
  | int (k : IntKind) (n : Int) : PR γ (.int k n) (.int k n)
  | str (s : List UInt8) : s.length ≤ M → PR γ (.str s) (.string ⟨s.toArray⟩)
  | nilp : PR γ .nilp (.pointer none)
  | nilm : PR γ .nilm (.map none)
  | nilf : PR γ .nilf .nilFunc
  | nili : PR γ .nili .nilIface
  | nils (sz : Nat) : PR γ (.nils sz) (.slice none 0 0)
  | cptr (b off : Nat) (cs : List AV) : PRc γ b off cs → PR γ (.cptr cs) (.pointer (some ⟨b, off, none⟩))
  | list0 (sz : Nat) (base : Option Addr) (cap : Nat) : PR γ (.list none sz []) (.slice base 0 cap)
  | list (b off cap sz : Nat) (xs : List AV) : xs.length ≤ M → xs.length ≤ cap → PRr γ b off sz xs → PR γ (.list none sz xs) (.slice (some ⟨b, off, none⟩) xs.length cap)
  | agg (cs : List AV) (ws : List Value) : PRs γ cs ws → PR γ (.agg cs) (.agg ws.toArray)
inductive PRc (γ : Gam) : Nat → Nat → List AV → Prop where
  | nil (b off : Nat) : PRc γ b off []
  | cons (b off : Nat) (c : AV) (cs : List AV) (v : Value) : γ b off = some v → v.oneCell' = true → PR γ c v → PRc γ b (off + 1) cs → PRc γ b off (c :: cs)
inductive PRr (γ : Gam) : Nat → Nat → Nat → List AV → Prop where
  | nil (b off sz : Nat) : PRr γ b off sz []
  | cons (b off sz : Nat) (x : AV) (xs : List AV) : x.cells.length = sz → PRc γ b off x.cells → PRr γ b (off + sz) sz xs → PRr γ b off sz (x :: xs)
inductive PRs (γ : Gam) : List AV → List Value → Prop where
  | nil : PRs γ [] []
  | cons (c : AV) (cs : List AV) (v : Value) (ws : List Value) : v.oneCell' = true → PR γ c v → PRs γ cs ws → PRs γ (c :: cs) (v :: ws)
end

/-- Who owns a block. -/
inductive Owner where
  | none | outer | junk
  | var (t : Nat)
  | bx (t : Nat)
  | bc (t i : Nat)
  | ob (id : Nat)
  | oc (id i : Nat)
  deriving DecidableEq

structure Gh where
  γ : Gam
  Ω : Nat → Owner
  ρ : Nat → Option Nat

mutual
inductive VR (g : Gh) : AV → Value → Prop where
  | pure (x : AV) (v : Value) : PR g.γ x v → VR g x v
  | own (e sz : Nat) (xs : List AV) (v : Value) : PR g.γ (.list none sz xs) v → VR g (.list (some e) sz xs) v
  | ptr (id off b : Nat) : g.ρ id = some b → VR g (.ptr id off) (.pointer (some ⟨b, off, none⟩))
  | map (id b : Nat) : g.ρ id = some b → VR g (.map id) (.map (some b))
  | nilc (sz : Nat) (base : Option Addr) : VR g (.nilc sz) (.slice base 0 0)
  | sl (id off n sz b k cap : Nat) : g.ρ id = some b → g.ρ (id + 1) = some k → off + cap * sz = k → n ≤ cap → VR g (.sl id off n sz) (.slice (some ⟨b, off, none⟩) n cap)
  | fn (f : Nat) (cs : List AV) (ws : List Value) : VRs g cs ws → VR g (.fn f cs) (.func (.func f) #[] ws.toArray)
  | agg (cs : List AV) (ws : List Value) : VRs g cs ws → (∀ w ∈ ws, w.oneCell' = true) → VR g (.agg cs) (.agg ws.toArray)
  | tup (cs : List AV) (ws : List Value) : VRs g cs ws → VR g (.tup cs) (.tuple ws.toArray)
inductive VRs (g : Gh) : List AV → List Value → Prop where
  | nil : VRs g [] []
  | cons (c : AV) (cs : List AV) (v : Value) (ws : List Value) : VR g c v → VRs g cs ws → VRs g (c :: cs) (v :: ws)
end

/-- Immutable cells stay. -/
def GamLe (γ γ' : Gam) : Prop := ∀ b o v, γ b o = some v → γ' b o = some v

theorem PR.mono {γ γ' : Gam} (h : GamLe γ γ') {x : AV} {v : Value} (hx : PR γ x v) : PR γ' x v := by
  refine PR.rec (motive_1 := fun x v _ => PR γ' x v) (motive_2 := fun b off cs _ => PRc γ' b off cs) (motive_3 := fun b off sz xs _ => PRr γ' b off sz xs)
    (motive_4 := fun cs ws _ => PRs γ' cs ws) ?_ ?_ ?_ ?_ ?_ ?_ ?_ ?_ ?_ ?_ ?_ ?_ ?_ ?_ ?_ ?_ ?_ ?_ hx
  · exact fun b => .bool b
  · exact fun k n => .int k n
  · exact fun s hs => .str s hs
  · exact .nilp
  · exact .nilm
  · exact .nilf
  · exact .nili
  · exact fun sz => .nils sz
  · exact fun b off cs _ h => .cptr b off cs h
  · exact fun sz base cap => .list0 sz base cap
  · exact fun b off cap sz xs h1 h1' _ h2 => .list b off cap sz xs h1 h1' h2
  · exact fun cs ws _ h => .agg cs ws h
  · exact fun b off => .nil b off
  · exact fun b off c cs v h1 h2 _ _ h3 h4 => .cons b off c cs v (h _ _ _ h1) h2 h3 h4
  · exact fun b off sz => .nil b off sz
  · exact fun b off sz x xs h1 _ _ h2 h3 => .cons b off sz x xs h1 h2 h3
  · exact .nil
  · exact fun c cs v ws h1 _ _ h2 h3 => .cons c cs v ws h1 h2 h3

theorem PRc.mono {γ γ' : Gam} (h : GamLe γ γ') : ∀ {cs : List AV} {b off : Nat}, PRc γ b off cs → PRc γ' b off cs
  | [], _, _, _ => .nil _ _
  | _ :: _, _, _, .cons _ _ _ _ v h1 h2 h3 h4 => .cons _ _ _ _ v (h _ _ _ h1) h2 (h3.mono h) (PRc.mono h h4)
theorem PRr.mono {γ γ' : Gam} (h : GamLe γ γ') : ∀ {xs : List AV} {b off sz : Nat}, PRr γ b off sz xs → PRr γ' b off sz xs
  | [], _, _, _, _ => .nil _ _ _
  | _ :: _, _, _, _, .cons _ _ _ _ _ h1 h2 h3 => .cons _ _ _ _ _ h1 (h2.mono h) (PRr.mono h h3)

/-- The ghost grows. -/
structure GhLe (g g' : Gh) : Prop where
  γ : GamLe g.γ g'.γ
  ρ : ∀ id b, g.ρ id = some b → g'.ρ id = some b

theorem VR.mono {g g' : Gh} (h : GhLe g g') {x : AV} {v : Value} (hx : VR g x v) : VR g' x v := by
  refine VR.rec (motive_1 := fun x v _ => VR g' x v) (motive_2 := fun cs ws _ => VRs g' cs ws) ?_ ?_ ?_ ?_ ?_ ?_ ?_ ?_ ?_ ?_ ?_ hx
  · exact fun x v hp => .pure x v (hp.mono h.γ)
  · exact fun e sz xs v hp => .own e sz xs v (hp.mono h.γ)
  · exact fun id off b hb => .ptr id off b (h.ρ _ _ hb)
  · exact fun id b hb => .map id b (h.ρ _ _ hb)
  · exact fun sz base => .nilc sz base
  · exact fun id off n sz b k cap h1 h2 h3 h4 => .sl id off n sz b k cap (h.ρ _ _ h1) (h.ρ _ _ h2) h3 h4
  · exact fun f cs ws _ hc => .fn f cs ws hc
  · exact fun cs ws _ h1 hc => .agg cs ws hc h1
  · exact fun cs ws _ hc => .tup cs ws hc
  · exact .nil
  · exact fun c cs v ws _ _ h1 h2 => .cons c cs v ws h1 h2

theorem VRs.mono {g g' : Gh} (h : GhLe g g') : ∀ {cs : List AV} {ws : List Value}, VRs g cs ws → VRs g' cs ws
  | [], _, .nil => .nil
  | _ :: _, _, .cons _ _ _ _ h1 h2 => .cons _ _ _ _ (h1.mono h) (VRs.mono h h2)

/-- A list that is owned: its block's owner is 'o', its spare cells are nobody's. -/
def OwnR (P : Program) (g : Gh) (w : World) (o : Owner) (x : AV) (v : Value) : Prop :=
  ∀ e sz xs, x = .list (some e) sz xs → ∃ i z vs, P.info? e = some i ∧ i.size = sz ∧ 0 < sz ∧ i.zero = some z ∧ z.cells.size = sz ∧ i.bytes ≤ 128 ∧
    xs.length ≤ M ∧ w.ownsRow 0 e sz v xs.length vs ∧ ∀ b, v.ownBlock = some b → g.Ω b = o ∧ PRr g.γ b 0 sz xs ∧ ∀ off, xs.length * sz ≤ off → g.γ b off = none

/-- A block of cells that this frame may write. -/
def BlkR (P : Program) (g : Gh) (w : World) (b : Nat) (o : Owner) (oc : Nat → Owner) (cs : List AV) : Prop :=
  ∃ arr ty, w.heap[b]? = some (.cells arr ty (0, 0)) ∧ cs.length ≤ arr.size ∧ g.Ω b = o ∧ (∀ off, g.γ b off = none) ∧
    ∀ i c, cs[i]? = some c → ∃ v, arr[i]? = some v ∧ v.oneCell' = true ∧ VR g c v ∧ OwnR P g w (oc i) c v

def ptrTo (b off : Nat) : Value := .pointer (some ⟨b, off, none⟩)

def EntR (P : Program) (g : Gh) (env : Env) (a : Act) (w : World) (t : Nat) : Ent → Prop
  | .v x => ∃ v, a.tmps[t]? = some v ∧ VR g x v ∧ OwnR P g w (.var t) x v
  | .b cs => ∃ b, a.tmps[t]? = some (ptrTo b 0) ∧ BlkR P g w b (.bx t) (.bc t) cs
  | .a u off => (∃ cs, env.get u = some (.b cs)) ∧ ∃ b, a.tmps[t]? = some (ptrTo b off) ∧ a.tmps[u]? = some (ptrTo b 0)

/-- An entry of a map. -/
def EntryR (P : Program) (g : Gh) (w : World) (id : Nat) (e : AV × AV) (m : MapEntry) : Prop :=
  VR g e.1 m.key ∧ key1 e.1 = true ∧ VR g e.2 m.val ∧ OwnR P g w (.oc id m.born) e.2 m.val
/-- Entries in some order. -/
def EntriesR (P : Program) (g : Gh) (w : World) (id : Nat) (es : List (AV × AV)) (arr : List MapEntry) : Prop :=
  ∃ es' : List (AV × AV), es'.Perm es ∧ es'.length = arr.length ∧ ∀ (i : Nat) e m, es'[i]? = some e → arr[i]? = some m → EntryR P g w id e m
/-- The block of a map. -/
def MapR (P : Program) (g : Gh) (w : World) (id b n : Nat) (es : List (AV × AV)) : Prop :=
  ∃ arr, w.heap[b]? = some (.map arr n) ∧ g.Ω b = .ob id ∧ EntriesR P g w id es arr.toList ∧
    arr.toList.Pairwise (fun x y => x.born < y.born) ∧ (∀ m ∈ arr.toList, m.born < n) ∧ es.Pairwise (fun x y => keyEq x.1 y.1 = false) ∧ ∃ ks, ∀ e ∈ es, keyFit ks e.1 = true
/-- What has been seen of a map. -/
def SeenR (w : World) (bm since : Nat) (seen : List AV) (ss : List Nat) : Prop :=
  ∃ L : List (AV × Nat), L.Pairwise (fun x y => keyEq x.1 y.1 = false ∧ x.2 ≠ y.2) ∧ (∀ x ∈ L, x.2 < since ∧ key1 x.1 = true) ∧ seen.length = ss.length ∧
    (∀ (i : Nat) k s, seen[i]? = some k → ss[i]? = some s → (k, s) ∈ L) ∧
    ∀ arr, w.heap[bm]? = some (.map arr since) → ∀ m ∈ arr.toList, ∃ k, (k, m.born) ∈ L ∧ PR (fun _ _ => none) k m.key
def IterR (g : Gh) (w : World) (since : Nat) (seen : List AV) : Option Nat → Obj → Prop
  | none, .mapIter none _ _ _ => True
  | some mid, .mapIter (some bm) s ss last => g.ρ mid = some bm ∧ g.Ω bm = .ob mid ∧ s = since ∧ last = since ∧ SeenR w bm since seen ss.toList ∧ ∃ arr n, w.heap[bm]? = some (.map arr n) ∧ since ≤ n
  | _, _ => False
def ObjR (P : Program) (g : Gh) (w : World) (id : Nat) : AObj → Prop
  | .cells cs => ∃ b, g.ρ id = some b ∧ BlkR P g w b (.ob id) (.oc id) cs
  | .buf e cs => ∃ b k, g.ρ id = some b ∧ g.ρ (id + 1) = some k ∧ BlkR P g w b (.ob id) (.oc id) cs ∧
      (∃ arr, w.heap[b]? = some (.cells arr e (0, 0)) ∧ arr.size = k) ∧ ∃ i z, P.info? e = some i ∧ 0 < i.size ∧ i.zero = some z ∧ z.cells.size = i.size ∧ i.bytes ≤ 128 ∧ k ≤ maxLen * i.size
  | .map n es => ∃ b, g.ρ id = some b ∧ MapR P g w id b n es
  | .iter m since seen => ∃ b o, g.ρ id = some b ∧ w.heap[b]? = some o ∧ g.Ω b = .ob id ∧ IterR g w since seen m o
  | .dead => True

structure Rel (P : Program) (gl : Glob) (N : Nat) (g : Gh) (s : St) (a : Act) (w : World) : Prop where
  sorted : s.env.Pairwise fun p q => p.1 < q.1
  size : a.tmps.size = N
  defers : a.defers = []
  env : ∀ t e, s.env.get t = some e → EntR P g s.env a w t e
  heap : ∀ (id : Nat) o, s.heap[id]? = some o → ObjR P g w id o
  gam : ∀ b off v, g.γ b off = some v → w.cell? ⟨b, off, none⟩ = some v
  own : ∀ b, g.Ω b ≠ .none → b < w.heap.size
  glob : ∀ n x, gl n = some x → PR g.γ x (ptrTo n 0)
  rho : ∀ id b, g.ρ id = some b → id < s.heap.length

/-- From one state to a later one: the ghost grows, what is outside stays. -/
structure GLe (g : Gh) (w : World) (g' : Gh) (w' : World) : Prop extends GhLe g g' where
  outer : ∀ b, g.Ω b = .outer → g'.Ω b = .outer ∧ w'.heap[b]? = w.heap[b]? ∧ ∀ o, g'.γ b o = g.γ b o
  size : w.heap.size ≤ w'.heap.size
  os : (w'.os, w'.tape) = (w.os, w.tape)
  out : w'.output = w.output

theorem GLe.refl (g : Gh) (w : World) : GLe g w g w := ⟨⟨fun _ _ _ h => h, fun _ _ h => h⟩, fun _ h => ⟨h, rfl, fun _ => rfl⟩, Nat.le_refl _, rfl, rfl⟩
theorem GLe.trans {g g' g'' : Gh} {w w' w'' : World} (h : GLe g w g' w') (h' : GLe g' w' g'' w'') : GLe g w g'' w'' :=
  ⟨⟨fun _ _ _ x => h'.γ _ _ _ (h.γ _ _ _ x), fun _ _ x => h'.ρ _ _ (h.ρ _ _ x)⟩,
   fun b hb => by
    obtain ⟨h1, h2, h3⟩ := h.outer b hb
    obtain ⟨h4, h5, h6⟩ := h'.outer b h1
    exact ⟨h4, h5.trans h2, fun o => (h6 o).trans (h3 o)⟩, Nat.le_trans h.size h'.size, h'.os.trans h.os, h'.out.trans h.out⟩

/-- Blocks of kept owners stay as they were. -/
def Kept (g : Gh) (w : World) (g' : Gh) (w' : World) (K : Owner → Prop) : Prop :=
  ∀ b, K (g.Ω b) → g'.Ω b = g.Ω b ∧ w'.heap[b]? = w.heap[b]? ∧ ∀ o, g'.γ b o = g.γ b o

theorem OwnR.of_ne {P : Program} {g : Gh} {w : World} {o : Owner} {x : AV} {v : Value} (h : ∀ e sz xs, x ≠ .list (some e) sz xs) : OwnR P g w o x v :=
  fun e sz xs hx => absurd hx (h e sz xs)
theorem OwnR.noOwn {P : Program} {g : Gh} {w : World} {o : Owner} {x : AV} {v : Value} : OwnR P g w o x.noOwn v :=
  .of_ne fun e sz xs h => by cases x <;> simp [AV.noOwn] at h

theorem ownsRow_kept {w w' : World} {base : Nat} {e size : Nat} {v : Value} {n : Nat} {xs : List Value} (h : w.ownsRow base e size v n xs)
    (hk : ∀ b, v.ownBlock = some b → w'.heap[b]? = w.heap[b]?) : w'.ownsRow base e size v n xs := by
  refine ⟨h.1, ?_⟩
  rcases h.2 with h | ⟨g, cap, cur, rfl, h1, h2, h3⟩
  · exact .inl h
  · exact .inr ⟨g, cap, cur, rfl, h1, (hk g rfl).trans h2, h3⟩

theorem OwnR.kept {P : Program} {g g' : Gh} {w w' : World} {K : Owner → Prop} {o : Owner} {x : AV} {v : Value} (h : OwnR P g w o x v) (hg : GhLe g g')
    (hk : Kept g w g' w' K) (ho : K o) : OwnR P g' w' o x v := by
  intro e sz xs hx
  obtain ⟨i, z, vs, h1, h2, h3, h4, h5, h6, h6', h7, h8⟩ := h e sz xs hx
  refine ⟨i, z, vs, h1, h2, h3, h4, h5, h6, h6', ownsRow_kept h7 fun b hb => ?_, fun b hb => ?_⟩
  · have := (h8 b hb).1
    exact (hk b (by rw [this]; exact ho)).2.1
  · obtain ⟨h9, h10, h11⟩ := h8 b hb
    obtain ⟨k1, k2, k3⟩ := hk b (by rw [h9]; exact ho)
    exact ⟨k1.trans h9, h10.mono hg.γ, fun off hoff => (k3 off).trans (h11 off hoff)⟩

theorem BlkR.kept {P : Program} {g g' : Gh} {w w' : World} {K : Owner → Prop} {b : Nat} {o : Owner} {oc : Nat → Owner} {cs : List AV} (h : BlkR P g w b o oc cs)
    (hg : GhLe g g') (hk : Kept g w g' w' K) (ho : K o) (hoc : ∀ i, K (oc i)) : BlkR P g' w' b o oc cs := by
  obtain ⟨arr, ty, h1, h2, h3, h4, h5⟩ := h
  obtain ⟨k1, k2, k3⟩ := hk b (by rw [h3]; exact ho)
  refine ⟨arr, ty, k2.trans h1, h2, k1.trans h3, fun off => (k3 off).trans (h4 off), fun i c hc => ?_⟩
  obtain ⟨v, h6, h7, h8, h9⟩ := h5 i c hc
  exact ⟨v, h6, h7, h8.mono hg, h9.kept hg hk (hoc i)⟩

theorem EntR.kept {P : Program} {g g' : Gh} {w w' : World} {K : Owner → Prop} {env : Env} {a : Act} {t : Nat} {e : Ent} (h : EntR P g env a w t e)
    (hg : GhLe g g') (hk : Kept g w g' w' K) (h1 : K (.var t)) (h2 : K (.bx t)) (h3 : ∀ i, K (.bc t i)) : EntR P g' env a w' t e := by
  cases e with
  | v x => obtain ⟨v, p1, p2, p3⟩ := h; exact ⟨v, p1, p2.mono hg, p3.kept hg hk h1⟩
  | b cs => obtain ⟨b, p1, p2⟩ := h; exact ⟨b, p1, p2.kept hg hk h2 h3⟩
  | a u off => exact h

theorem EntriesR.kept {P : Program} {g g' : Gh} {w w' : World} {K : Owner → Prop} {id : Nat} {es : List (AV × AV)} {arr : List MapEntry} (h : EntriesR P g w id es arr)
    (hg : GhLe g g') (hk : Kept g w g' w' K) (h3 : ∀ i, K (.oc id i)) : EntriesR P g' w' id es arr := by
  obtain ⟨es', p1, p2, p3⟩ := h
  refine ⟨es', p1, p2, fun i e m he hm => ?_⟩
  obtain ⟨q1, q2, q3, q4⟩ := p3 i e m he hm
  exact ⟨q1.mono hg, q2, q3.mono hg, q4.kept hg hk (h3 _)⟩
theorem MapR.kept {P : Program} {g g' : Gh} {w w' : World} {K : Owner → Prop} {id b n : Nat} {es : List (AV × AV)} (h : MapR P g w id b n es)
    (hg : GhLe g g') (hk : Kept g w g' w' K) (h2 : K (.ob id)) (h3 : ∀ i, K (.oc id i)) : MapR P g' w' id b n es := by
  obtain ⟨arr, p1, p2, p3, p4⟩ := h
  obtain ⟨k1, k2, _⟩ := hk b (by rw [p2]; exact h2)
  exact ⟨arr, k2.trans p1, k1.trans p2, p3.kept hg hk h3, p4⟩
theorem SeenR.kept {w w' : World} {bm since : Nat} {seen : List AV} {ss : List Nat} (h : SeenR w bm since seen ss) (hk : w'.heap[bm]? = w.heap[bm]?) : SeenR w' bm since seen ss := by
  obtain ⟨L, h1, h2, h3, h4, h5⟩ := h
  exact ⟨L, h1, h2, h3, h4, fun arr ha => h5 arr (hk ▸ ha)⟩
theorem IterR.kept {g g' : Gh} {w w' : World} {K : Owner → Prop} {since : Nat} {seen : List AV} {m : Option Nat} {o : Obj} (h : IterR g w since seen m o)
    (hg : GhLe g g') (hk : Kept g w g' w' K) (hK : ∀ mid, m = some mid → K (.ob mid)) : IterR g' w' since seen m o := by
  cases m with
  | none => cases o <;> first | exact h | skip
            rename_i mp _ _ _
            cases mp <;> exact h
  | some mid =>
    cases o <;> try exact h
    rename_i mp s ss last
    cases mp with
    | none => exact h
    | some bm =>
      obtain ⟨p1, p2, p3, p4, p5, arr, n, p6, p7⟩ := h
      obtain ⟨k1, k2, _⟩ := hk bm (by rw [p2]; exact hK mid rfl)
      exact ⟨hg.ρ _ _ p1, k1.trans p2, p3, p4, p5.kept k2, arr, n, k2.trans p6, p7⟩
theorem ObjR.kept {P : Program} {g g' : Gh} {w w' : World} {K : Owner → Prop} {id : Nat} {o : AObj} (h : ObjR P g w id o)
    (hg : GhLe g g') (hk : Kept g w g' w' K) (h2 : ∀ id, K (.ob id)) (h3 : ∀ i, K (.oc id i)) : ObjR P g' w' id o := by
  cases o with
  | cells cs => obtain ⟨b, p1, p2⟩ := h; exact ⟨b, hg.ρ _ _ p1, p2.kept hg hk (h2 id) h3⟩
  | buf e cs =>
    obtain ⟨b, k, p1, p2, p3, ⟨arr, p4, p5⟩, p6⟩ := h
    obtain ⟨_, _, _, _, q3, _⟩ := p3
    refine ⟨b, k, hg.ρ _ _ p1, hg.ρ _ _ p2, BlkR.kept ⟨_, _, ‹_›, ‹_›, q3, ‹_›⟩ hg hk (h2 id) h3, ⟨arr, ?_, p5⟩, p6⟩
    exact (hk b (by rw [q3]; exact h2 id)).2.1.trans p4
  | map n es => obtain ⟨b, p1, p2⟩ := h; exact ⟨b, hg.ρ _ _ p1, p2.kept hg hk (h2 id) h3⟩
  | iter m since seen =>
    obtain ⟨b, o, p1, p2, p3, p4⟩ := h
    obtain ⟨k1, k2, _⟩ := hk b (by rw [p3]; exact h2 id)
    exact ⟨b, o, hg.ρ _ _ p1, k2.trans p2, k1.trans p3, p4.kept hg hk fun mid _ => h2 mid⟩
  | dead => trivial

/-- An object beside one whose block is written. -/
theorem ObjR.beside {P : Program} {g g' : Gh} {w w' : World} {K : Owner → Prop} {id id' b : Nat} {o : AObj} (h : ObjR P g w id' o)
    (hg : GhLe g g') (hk : Kept g w g' w' K) (hid : id' ≠ id) (hb : g.ρ id = some b) (hm : ∀ arr n, w.heap[b]? ≠ some (.map arr n)) (h2 : ∀ i, i ≠ id → K (.ob i)) (h3 : ∀ i, K (.oc id' i)) : ObjR P g' w' id' o := by
  cases o with
  | cells cs => obtain ⟨b, p1, p2⟩ := h; exact ⟨b, hg.ρ _ _ p1, p2.kept hg hk (h2 _ hid) h3⟩
  | buf e cs =>
    obtain ⟨b, k, p1, p2, p3, ⟨arr, p4, p5⟩, p6⟩ := h
    obtain ⟨_, _, _, _, q3, _⟩ := p3
    refine ⟨b, k, hg.ρ _ _ p1, hg.ρ _ _ p2, BlkR.kept ⟨_, _, ‹_›, ‹_›, q3, ‹_›⟩ hg hk (h2 _ hid) h3, ⟨arr, ?_, p5⟩, p6⟩
    exact (hk b (by rw [q3]; exact h2 _ hid)).2.1.trans p4
  | map n es => obtain ⟨b, p1, p2⟩ := h; exact ⟨b, hg.ρ _ _ p1, p2.kept hg hk (h2 _ hid) h3⟩
  | iter m since seen =>
    obtain ⟨b', o, p1, p2, p3, p4⟩ := h
    obtain ⟨k1, k2, _⟩ := hk b' (by rw [p3]; exact h2 _ hid)
    refine ⟨b', o, hg.ρ _ _ p1, k2.trans p2, k1.trans p3, p4.kept hg hk fun mid hmid => h2 _ ?_⟩
    rintro rfl
    subst hmid
    cases o <;> simp only [IterR] at p4
    rename_i mp _ _ _
    cases mp with
    | none => exact p4.elim
    | some bm =>
      obtain ⟨q1, _, _, _, _, arr, n, q6, _⟩ := p4
      rw [hb] at q1; simp at q1; subst q1
      exact hm _ _ q6
  | dead => trivial

/-- A state over a later ghost and world, nothing of its own touched. -/
theorem Rel.later {P : Program} {gl : Glob} {N : Nat} {g g' : Gh} {s : St} {a : Act} {w w' : World} {K : Owner → Prop} (h : Rel P gl N g s a w) (hg : GhLe g g')
    (hk : Kept g w g' w' K) (hK : ∀ o, o ≠ .none → K o) (hgam : ∀ b off v, g'.γ b off = some v → w'.cell? ⟨b, off, none⟩ = some v)
    (hown : ∀ b, g'.Ω b ≠ .none → b < w'.heap.size) (hrho : ∀ id b, g'.ρ id = some b → id < s.heap.length) : Rel P gl N g' s a w' :=
  ⟨h.sorted, h.size, h.defers, fun t e he => (h.env t e he).kept hg hk (hK _ (by simp)) (hK _ (by simp)) (fun _ => hK _ (by simp)),
   fun id o ho => (h.heap id o ho).kept hg hk (fun _ => hK _ (by simp)) (fun _ => hK _ (by simp)), hgam, hown, fun n x hx => (h.glob n x hx).mono hg.γ, hrho⟩
end AM
/-! Laws of the abstract environment, and what a write of a temporary does to the relation. -/
namespace AM
open Go

namespace Env
def Sorted (e : Env) : Prop := e.Pairwise fun p q => p.1 < q.1
theorem get_ins (e : Env) (t : Nat) (x : Ent) (u : Nat) : (e.ins t x).get u = if u = t then some x else e.get u := by
  induction e with
  | nil => simp [ins, get]
  | cons p r ih =>
    obtain ⟨k, y⟩ := p
    simp only [ins]
    split
    · simp [get]
    · split
      · rename_i h1 h2; subst h2; by_cases h : u = t <;> simp [get, h]
      · rename_i h1 h2
        simp only [get, ih]
        by_cases h : u = k
        · simp [h, show ¬ k = t from fun e => h2 e.symm]
        · simp [h]
theorem get_del (e : Env) (t u : Nat) : (e.del t).get u = if u = t then none else e.get u := by
  induction e with
  | nil => simp [del, get]
  | cons p r ih =>
    obtain ⟨k, y⟩ := p
    simp only [del]
    split
    · rename_i h; subst h; rw [ih]; by_cases h : u = t <;> simp [get, h]
    · rename_i h
      simp only [get, ih]
      by_cases h1 : u = k
      · have : u ≠ t := fun e => h (e ▸ h1)
        simp [h1, show ¬ k = t from fun e => h e.symm]
      · simp [h1]
theorem get_none_of_lt {e : Env} {k : Nat} (h : ∀ p ∈ e, k < p.1) : e.get k = none := by
  induction e with
  | nil => rfl
  | cons p r ih =>
    obtain ⟨j, y⟩ := p
    have h1 := h (j, y) (by simp)
    simp only at h1
    simp only [get, show ¬ k = j from by omega, if_false]
    exact ih fun p hp => h p (by simp [hp])
theorem mem_ins {e : Env} {t : Nat} {x : Ent} {p : Nat × Ent} (h : p ∈ e.ins t x) : p = (t, x) ∨ p ∈ e := by
  induction e with
  | nil => simp [ins] at h; exact .inl h
  | cons q r ih =>
    obtain ⟨k, y⟩ := q
    simp only [ins] at h
    split at h
    · simp at h ⊢; rcases h with h | h | h <;> simp [h]
    · split at h
      · simp at h ⊢; rcases h with h | h <;> simp [h]
      · simp at h ⊢; rcases h with h | h
        · simp [h]
        · rcases ih h with h | h <;> simp [h]
theorem Sorted.ins {e : Env} (h : e.Sorted) (t : Nat) (x : Ent) : (e.ins t x).Sorted := by
  induction e with
  | nil => simp [Env.ins, Sorted]
  | cons p r ih =>
    obtain ⟨k, y⟩ := p
    have h' := List.pairwise_cons.1 h
    simp only [Env.ins]
    split
    · rename_i hlt
      refine List.pairwise_cons.2 ⟨fun q hq => ?_, h⟩
      rcases List.mem_cons.1 hq with rfl | hq
      · exact hlt
      · exact Nat.lt_trans hlt (h'.1 q hq)
    · split
      · rename_i h1 h2; subst h2; exact List.pairwise_cons.2 ⟨h'.1, h'.2⟩
      · rename_i h1 h2
        refine List.pairwise_cons.2 ⟨fun q hq => ?_, ih h'.2⟩
        rcases mem_ins hq with rfl | hq
        · simp only; omega
        · exact h'.1 q hq
theorem mem_del {e : Env} {t : Nat} {p : Nat × Ent} (h : p ∈ e.del t) : p ∈ e := by
  induction e with
  | nil => simp [del] at h
  | cons q r ih =>
    obtain ⟨k, y⟩ := q
    simp only [del] at h
    split at h
    · exact List.mem_cons_of_mem _ (ih h)
    · rcases List.mem_cons.1 h with h | h
      · simp [h]
      · exact List.mem_cons_of_mem _ (ih h)
theorem Sorted.del {e : Env} (h : e.Sorted) (t : Nat) : (e.del t).Sorted := by
  induction e with
  | nil => simp [Env.del, Sorted]
  | cons p r ih =>
    obtain ⟨k, y⟩ := p
    have h' := List.pairwise_cons.1 h
    simp only [Env.del]
    split
    · exact ih h'.2
    · exact List.pairwise_cons.2 ⟨fun q hq => h'.1 q (mem_del hq), ih h'.2⟩
theorem mem_noAddr {e : Env} {t : Nat} {p : Nat × Ent} (h : p ∈ e.noAddr t) : p ∈ e ∧ ∀ off, p.2 ≠ .a t off := by
  induction e with
  | nil => simp [noAddr] at h
  | cons q r ih =>
    obtain ⟨k, y⟩ := q
    cases y with
    | a u off =>
      simp only [noAddr] at h
      split at h
      · exact ⟨List.mem_cons_of_mem _ (ih h).1, (ih h).2⟩
      · rename_i hne
        rcases List.mem_cons.1 h with rfl | h
        · exact ⟨by simp, fun off' h => hne (by simp at h; exact h.1)⟩
        · exact ⟨List.mem_cons_of_mem _ (ih h).1, (ih h).2⟩
    | v x =>
      simp only [noAddr] at h
      rcases List.mem_cons.1 h with rfl | h
      · exact ⟨by simp, fun _ h => by simp at h⟩
      · exact ⟨List.mem_cons_of_mem _ (ih h).1, (ih h).2⟩
    | b cs =>
      simp only [noAddr] at h
      rcases List.mem_cons.1 h with rfl | h
      · exact ⟨by simp, fun _ h => by simp at h⟩
      · exact ⟨List.mem_cons_of_mem _ (ih h).1, (ih h).2⟩
theorem Sorted.noAddr {e : Env} (h : e.Sorted) (t : Nat) : (e.noAddr t).Sorted := by
  induction e with
  | nil => simp [Env.noAddr, Sorted]
  | cons p r ih =>
    obtain ⟨k, y⟩ := p
    have h' := List.pairwise_cons.1 h
    cases y with
    | a u off =>
      simp only [Env.noAddr]
      split
      · exact ih h'.2
      · exact List.pairwise_cons.2 ⟨fun q hq => h'.1 q (mem_noAddr hq).1, ih h'.2⟩
    | v x => exact List.pairwise_cons.2 ⟨fun q hq => h'.1 q (mem_noAddr hq).1, ih h'.2⟩
    | b cs => exact List.pairwise_cons.2 ⟨fun q hq => h'.1 q (mem_noAddr hq).1, ih h'.2⟩
theorem mem_of_get {e : Env} {t : Nat} {x : Ent} (h : e.get t = some x) : (t, x) ∈ e := by
  induction e with
  | nil => simp [get] at h
  | cons p r ih =>
    obtain ⟨k, y⟩ := p
    simp only [get] at h
    split at h
    · rename_i h1; subst h1; simp at h; simp [h]
    · exact List.mem_cons_of_mem _ (ih h)
theorem get_of_mem {e : Env} (hs : e.Sorted) {t : Nat} {x : Ent} (h : (t, x) ∈ e) : e.get t = some x := by
  induction e with
  | nil => simp at h
  | cons p r ih =>
    obtain ⟨k, y⟩ := p
    have h' := List.pairwise_cons.1 hs
    simp only [get]
    rcases List.mem_cons.1 h with h | h
    · simp at h; simp [h.1, h.2]
    · have := h'.1 _ h
      simp only at this
      simp only [show ¬ t = k from by omega, if_false]
      exact ih h'.2 h
theorem get_noAddr {e : Env} (hs : e.Sorted) {t u : Nat} {x : Ent} : (e.noAddr t).get u = some x → e.get u = some x ∧ ∀ off, x ≠ .a t off := fun h =>
  ⟨get_of_mem hs (mem_noAddr (mem_of_get h)).1, (mem_noAddr (mem_of_get h)).2⟩
theorem mem_noAddr_of {e : Env} {t : Nat} {p : Nat × Ent} (h : p ∈ e) (hne : ∀ off, p.2 ≠ .a t off) : p ∈ e.noAddr t := by
  induction e with
  | nil => simp at h
  | cons q r ih =>
    obtain ⟨k, y⟩ := q
    rcases List.mem_cons.1 h with h2 | h2
    · subst h2
      cases y with
      | a u off => simp only [noAddr, show ¬ u = t from fun e => hne off (by simp [e]), if_false]; simp
      | v x => simp [noAddr]
      | b cs => simp [noAddr]
    · cases y with
      | a u off => simp only [noAddr]; split
                   · exact ih h2
                   · exact List.mem_cons_of_mem _ (ih h2)
      | v x => exact List.mem_cons_of_mem _ (ih h2)
      | b cs => exact List.mem_cons_of_mem _ (ih h2)
theorem get_noAddr_of {e : Env} (hs : e.Sorted) {t u : Nat} {x : Ent} (h : e.get u = some x) (hne : ∀ off, x ≠ .a t off) : (e.noAddr t).get u = some x :=
  get_of_mem (hs.noAddr t) (mem_noAddr_of (mem_of_get h) hne)
theorem mem_close {e : Env} {ts : List Nat} {p : Nat × Ent} (h : p ∈ e.close ts) : p ∈ e ∧ ∀ u off, p.2 ≠ .a u off := by
  induction e with
  | nil => simp [close] at h
  | cons q r ih =>
    obtain ⟨k, y⟩ := q
    cases y with
    | a u off =>
      simp only [close] at h
      exact ⟨List.mem_cons_of_mem _ (ih h).1, (ih h).2⟩
    | v x =>
      simp only [close] at h
      split at h
      · exact ⟨List.mem_cons_of_mem _ (ih h).1, (ih h).2⟩
      · rcases List.mem_cons.1 h with rfl | h
        · exact ⟨by simp, fun _ _ h => by simp at h⟩
        · exact ⟨List.mem_cons_of_mem _ (ih h).1, (ih h).2⟩
    | b cs =>
      simp only [close] at h
      split at h
      · exact ⟨List.mem_cons_of_mem _ (ih h).1, (ih h).2⟩
      · rcases List.mem_cons.1 h with rfl | h
        · exact ⟨by simp, fun _ _ h => by simp at h⟩
        · exact ⟨List.mem_cons_of_mem _ (ih h).1, (ih h).2⟩
theorem Sorted.close {e : Env} (h : e.Sorted) (ts : List Nat) : (e.close ts).Sorted := by
  induction e with
  | nil => simp [Env.close, Sorted]
  | cons p r ih =>
    obtain ⟨k, y⟩ := p
    have h' := List.pairwise_cons.1 h
    cases y with
    | a u off => exact ih h'.2
    | v x => simp only [Env.close]; split
             · exact ih h'.2
             · exact List.pairwise_cons.2 ⟨fun q hq => h'.1 q (mem_close hq).1, ih h'.2⟩
    | b cs => simp only [Env.close]; split
              · exact ih h'.2
              · exact List.pairwise_cons.2 ⟨fun q hq => h'.1 q (mem_close hq).1, ih h'.2⟩
theorem get_close {e : Env} (hs : e.Sorted) {ts : List Nat} {u : Nat} {x : Ent} (h : (e.close ts).get u = some x) : e.get u = some x ∧ ∀ v off, x ≠ .a v off :=
  ⟨get_of_mem hs (mem_close (mem_of_get h)).1, (mem_close (mem_of_get h)).2⟩
end Env
end AM
/-! What writes of temporaries, boxes and ghosts do to the relation. -/
namespace AM
open Go

def NotOwn (x : AV) : Prop := ∀ e sz xs, x ≠ .list (some e) sz xs
theorem NotOwn.noOwn (x : AV) : NotOwn x.noOwn := fun e sz xs h => by cases x <;> simp [AV.noOwn] at h
theorem NotOwn.none (sz : Nat) (xs : List AV) : NotOwn (.list none sz xs) := fun _ _ _ h => by simp at h
theorem NotOwn.ownR {P : Program} {g : Gh} {w : World} {o : Owner} {x : AV} {v : Value} (h : NotOwn x) : OwnR P g w o x v := .of_ne h
theorem VR.noOwn {g : Gh} {x : AV} {v : Value} (h : VR g x v) : VR g x.noOwn v := by
  cases x <;> try exact h
  rename_i own sz xs
  cases own with
  | none => exact h
  | some e => cases h with
    | own _ _ _ _ h => exact .pure _ _ h
    | pure _ _ h => cases h

theorem tmps_put {a : Act} {d : Nat} (hd : d < a.tmps.size) (v : Value) (t : Nat) : (a.put (some d) v).tmps[t]? = if t = d then some v else a.tmps[t]? := by
  simp only [Act.put]
  by_cases h : t = d
  · subst h; simp [hd]
  · simp [h, Array.getElem?_setIfInBounds_ne (fun e => h e.symm)]

/-- No own list stands where 'x' would own one. -/
structure PosFree (s : St) (x : Owner) : Prop where
  var : ∀ t y, x = .var t → s.env.get t = some (.v y) → NotOwn y
  bc : ∀ t i cs c, x = .bc t i → s.env.get t = some (.b cs) → cs[i]? = some c → NotOwn c
  oc : ∀ (id i : Nat) cs c, x = .oc id i → (s.heap[id]? = some (.cells cs) ∨ ∃ e, s.heap[id]? = some (.buf e cs)) → cs[i]? = some c → NotOwn c
  om : ∀ (id i : Nat) n es, x = .oc id i → s.heap[id]? = some (.map n es) → ∀ e ∈ es, NotOwn e.2
  bx : ∀ t, x ≠ .bx t
  ob : ∀ id, x ≠ .ob id

theorem PosFree.none (s : St) : PosFree s .none := ⟨by simp, by simp, by simp, by simp, by simp, by simp⟩

section
variable {P : Program} {gl : Glob} {N : Nat} {g g' : Gh} {s s' : St} {a : Act} {w w' : World}

theorem OwnR.kept' {K : Owner → Prop} {o : Owner} {x : AV} {v : Value} (h : OwnR P g w o x v) (hg : GhLe g g') (hk : Kept g w g' w' K) (ho : K o ∨ NotOwn x) : OwnR P g' w' o x v := by
  rcases ho with ho | ho
  · exact h.kept hg hk ho
  · exact ho.ownR

theorem BlkR.kept' {K : Owner → Prop} {b : Nat} {o : Owner} {oc : Nat → Owner} {cs : List AV} (h : BlkR P g w b o oc cs)
    (hg : GhLe g g') (hk : Kept g w g' w' K) (ho : K o) (hoc : ∀ i c, cs[i]? = some c → K (oc i) ∨ NotOwn c) : BlkR P g' w' b o oc cs := by
  obtain ⟨arr, ty, h1, h2, h3, h4, h5⟩ := h
  obtain ⟨k1, k2, k3⟩ := hk b (by rw [h3]; exact ho)
  refine ⟨arr, ty, k2.trans h1, h2, k1.trans h3, fun off => (k3 off).trans (h4 off), fun i c hc => ?_⟩
  obtain ⟨v, h6, h7, h8, h9⟩ := h5 i c hc
  exact ⟨v, h6, h7, h8.mono hg, h9.kept' hg hk (hoc i c hc)⟩

/-- A state over a later ghost and world: the blocks of all owners but 'x' are as they were, and nothing owned stands at 'x'. -/
theorem Rel.step (h : Rel P gl N g s a w) (x : Owner) (hx : PosFree s x) (hg : GhLe g g') (hk : Kept g w g' w' fun o => o ≠ .none ∧ o ≠ x)
    (hgam : ∀ b off v, g'.γ b off = some v → w'.cell? ⟨b, off, none⟩ = some v)
    (hown : ∀ b, g'.Ω b ≠ .none → b < w'.heap.size) (hrho : ∀ id b, g'.ρ id = some b → id < s.heap.length) : Rel P gl N g' s a w' := by
  refine ⟨h.sorted, h.size, h.defers, fun t e he => ?_, fun id o ho => ?_, hgam, hown, fun n x hx => (h.glob n x hx).mono hg.γ, hrho⟩
  · have h1 := h.env t e he
    cases e with
    | v y =>
      obtain ⟨v, p1, p2, p3⟩ := h1
      refine ⟨v, p1, p2.mono hg, p3.kept' hg hk ?_⟩
      by_cases hxt : x = .var t
      · exact .inr (hx.var t y hxt he)
      · exact .inl ⟨by simp, fun e => hxt e.symm⟩
    | b cs =>
      obtain ⟨b, p1, p2⟩ := h1
      refine ⟨b, p1, p2.kept' hg hk ⟨by simp, fun e => hx.bx t e.symm⟩ fun i c hc => ?_⟩
      by_cases hxt : x = .bc t i
      · exact .inr (hx.bc t i cs c hxt he hc)
      · exact .inl ⟨by simp, fun e => hxt e.symm⟩
    | a u off => exact h1
  · have h1 := h.heap id o ho
    cases o with
    | cells cs =>
      obtain ⟨b, p1, p2⟩ := h1
      refine ⟨b, hg.ρ _ _ p1, p2.kept' hg hk ⟨by simp, fun e => hx.ob id e.symm⟩ fun i c hc => ?_⟩
      by_cases hxt : x = .oc id i
      · exact .inr (hx.oc id i cs c hxt (.inl ho) hc)
      · exact .inl ⟨by simp, fun e => hxt e.symm⟩
    | buf e cs =>
      obtain ⟨b, k, p1, p2, p3, ⟨arr, p4, p5⟩, p6⟩ := h1
      have q3 : g.Ω b = .ob id := p3.choose_spec.choose_spec.2.2.1
      refine ⟨b, k, hg.ρ _ _ p1, hg.ρ _ _ p2, p3.kept' hg hk ⟨by simp, fun e => hx.ob id e.symm⟩ fun i c hc => ?_, ⟨arr, ?_, p5⟩, p6⟩
      · by_cases hxt : x = .oc id i
        · exact .inr (hx.oc id i cs c hxt (.inr ⟨e, ho⟩) hc)
        · exact .inl ⟨by simp, fun e => hxt e.symm⟩
      · exact (hk b (by rw [q3]; exact ⟨by simp, fun e => hx.ob id e.symm⟩)).2.1.trans p4
    | map n es =>
      obtain ⟨b, p1, arr, p2, p3, ⟨es', r1, r2, r3⟩, p5⟩ := h1
      obtain ⟨k1, k2, _⟩ := hk b (by rw [p3]; exact ⟨by simp, fun e => hx.ob id e.symm⟩)
      refine ⟨b, hg.ρ _ _ p1, arr, k2.trans p2, k1.trans p3, ⟨es', r1, r2, fun i e m he hm => ?_⟩, p5⟩
      obtain ⟨q1, q2, q3, q4⟩ := r3 i e m he hm
      refine ⟨q1.mono hg, q2, q3.mono hg, q4.kept' hg hk ?_⟩
      by_cases hxt : x = .oc id m.born
      · exact .inr (hx.om id m.born n es hxt ho e (r1.mem_iff.1 (List.mem_of_getElem? he)))
      · exact .inl ⟨by simp, fun e => hxt e.symm⟩
    | iter m since seen =>
      obtain ⟨b, o, p1, p2, p3, p4⟩ := h1
      obtain ⟨k1, k2, _⟩ := hk b (by rw [p3]; exact ⟨by simp, fun e => hx.ob id e.symm⟩)
      exact ⟨b, o, hg.ρ _ _ p1, k2.trans p2, k1.trans p3, p4.kept hg hk fun mid _ => ⟨by simp, fun e => hx.ob mid e.symm⟩⟩
    | dead => trivial

theorem okPut_ne {env : Env} {d u : Nat} {cs : List AV} (h : okPut env d = true) (hu : env.get u = some (.b cs)) : u ≠ d := by
  rintro rfl; simp [okPut, hu] at h

theorem EntR.other {env env' : Env} {d : Nat} {v : Value} {t : Nat} {e : Ent} (hs : d < a.tmps.size) (ht : t ≠ d) (h : EntR P g env a w t e)
    (hb : ∀ u cs, env.get u = some (.b cs) → (∃ off, e = .a u off) → u ≠ d ∧ env'.get u = some (.b cs)) : EntR P g env' (a.put (some d) v) w t e := by
  cases e with
  | v x => obtain ⟨u, p1, p2, p3⟩ := h; exact ⟨u, by rw [tmps_put hs]; simp [ht, p1], p2, p3⟩
  | b cs => obtain ⟨b, p1, p2⟩ := h; exact ⟨b, by rw [tmps_put hs]; simp [ht, p1], p2⟩
  | a u off =>
    obtain ⟨⟨cs, hu⟩, b, p1, p2⟩ := h
    obtain ⟨h1, h2⟩ := hb u cs hu ⟨off, rfl⟩
    exact ⟨⟨cs, h2⟩, b, by rw [tmps_put hs]; simp [ht, p1], by rw [tmps_put hs]; simp [h1, p2]⟩

/-- A value into a temporary. -/
theorem Rel.put (h : Rel P gl N g s a w) {d : Nat} {x : AV} {v : Value} (hp : s.put d x = some s') (hd : d < N) (hv : VR g x v) (ho : OwnR P g w (.var d) x v) :
    Rel P gl N g s' (a.put (some d) v) w := by
  have hs : d < a.tmps.size := by rw [h.size]; exact hd
  unfold St.put at hp
  split at hp
  · rename_i hok
    simp at hp; subst hp
    refine ⟨Env.Sorted.ins h.sorted d _, by simp [Act.put, h.size], h.defers, fun t e he => ?_, h.heap, h.gam, h.own, h.glob, h.rho⟩
    rw [Env.get_ins] at he
    split at he
    · rename_i ht; subst ht; simp at he; subst he
      exact ⟨v, by rw [tmps_put hs]; simp, hv, ho⟩
    · rename_i ht
      exact (h.env t e he).other hs ht fun u cs hu _ => ⟨okPut_ne hok hu, by rw [Env.get_ins]; simp [okPut_ne hok hu, hu]⟩
  · cases hp

/-- An address within a box into a temporary. -/
theorem Rel.putA (h : Rel P gl N g s a w) {d u off b : Nat} {cs : List AV} (hok : okPut s.env d = true) (hd : d < N) (hu : s.env.get u = some (.b cs))
    (hb : a.tmps[u]? = some (ptrTo b 0)) : Rel P gl N g { s with env := s.env.ins d (.a u off) } (a.put (some d) (ptrTo b off)) w := by
  have hs : d < a.tmps.size := by rw [h.size]; exact hd
  refine ⟨Env.Sorted.ins h.sorted d _, by simp [Act.put, h.size], h.defers, fun t e he => ?_, h.heap, h.gam, h.own, h.glob, h.rho⟩
  simp only at he ⊢
  rw [Env.get_ins] at he
  have hud := okPut_ne hok hu
  split at he
  · rename_i ht; subst ht; simp at he; subst he
    exact ⟨⟨cs, by rw [Env.get_ins]; simp [hud, hu]⟩, b, by rw [tmps_put hs]; simp, by rw [tmps_put hs]; simp [hud, hb]⟩
  · rename_i ht
    exact (h.env t e he).other hs ht fun u cs hu _ => ⟨okPut_ne hok hu, by rw [Env.get_ins]; simp [okPut_ne hok hu, hu]⟩

theorem hasA_spec {env : Env} {d u off : Nat} (h : hasA env d = false) (hu : env.get u = some (.a d off)) : False := by
  unfold hasA at h
  rw [List.any_eq_false] at h
  have := h _ (Env.mem_of_get hu)
  simp at this
/-- A box into a temporary. -/
theorem Rel.putB (h : Rel P gl N g s a w) {d b : Nat} {cs : List AV} (hp : s.putB d cs = some s') (hd : d < N) (hb : BlkR P g w b (.bx d) (.bc d) cs) :
    Rel P gl N g s' (a.put (some d) (ptrTo b 0)) w := by
  have hs : d < a.tmps.size := by rw [h.size]; exact hd
  unfold St.putB at hp
  split at hp
  · cases hp
  rename_i hA
  simp only [Bool.or_eq_true, not_or, Bool.not_eq_true] at hA
  obtain ⟨hA, _⟩ := hA
  simp only [Option.some.injEq] at hp
  subst hp
  refine ⟨Env.Sorted.ins h.sorted d _, by simp [Act.put, h.size], h.defers, fun t e he => ?_, h.heap, h.gam, h.own, h.glob, h.rho⟩
  simp only at he ⊢
  rw [Env.get_ins] at he
  split at he
  · rename_i ht; subst ht; simp at he; subst he
    exact ⟨b, by rw [tmps_put hs]; simp, hb⟩
  · rename_i ht
    refine (h.env t e he).other hs ht fun u cs hu ⟨off, he'⟩ => ?_
    have hne : u ≠ d := fun e => hasA_spec hA (by rw [he, he', e])
    exact ⟨hne, by rw [Env.get_ins]; simp [hne, hu]⟩

/-- A temporary is forgotten, and written with whatever. -/
theorem Rel.forget (h : Rel P gl N g s a w) {d : Nat} {v : Value} (hok : okPut s.env d = true) (hd : d < N) :
    Rel P gl N g { s with env := s.env.del d } (a.put (some d) v) w := by
  have hs : d < a.tmps.size := by rw [h.size]; exact hd
  refine ⟨Env.Sorted.del h.sorted d, by simp [Act.put, h.size], h.defers, fun t e he => ?_, h.heap, h.gam, h.own, h.glob, h.rho⟩
  simp only at he ⊢
  rw [Env.get_del] at he
  split at he
  · cases he
  · rename_i ht
    exact (h.env t e he).other hs ht fun u cs hu _ => ⟨okPut_ne hok hu, by rw [Env.get_del]; simp [okPut_ne hok hu, hu]⟩

/-- Some temporaries are forgotten, and all addresses within boxes. -/
theorem Rel.close (h : Rel P gl N g s a w) (ts : List Nat) : Rel P gl N g { s with env := s.env.close ts } a w := by
  refine ⟨Env.Sorted.close h.sorted ts, h.size, h.defers, fun t e he => ?_, h.heap, h.gam, h.own, h.glob, h.rho⟩
  obtain ⟨h1, h2⟩ := Env.get_close h.sorted he
  have := h.env t e h1
  cases e with
  | v x => exact this
  | b cs => exact this
  | a u off => exact absurd rfl (h2 u off)

/-- A value's temporary loses what it owns. -/
theorem Rel.strip (h : Rel P gl N g s a w) {x e sz : Nat} {xs : List AV} (hx : s.env.get x = some (.v (.list (some e) sz xs))) :
    s.put x (.list none sz xs) = some { s with env := s.env.ins x (.v (.list none sz xs)) } ∧ Rel P gl N g { s with env := s.env.ins x (.v (.list none sz xs)) } a w := by
  refine ⟨by simp [St.put, okPut, hx], Env.Sorted.ins h.sorted x _, h.size, h.defers, fun t y he => ?_, h.heap, h.gam, h.own, h.glob, h.rho⟩
  simp only at he ⊢
  rw [Env.get_ins] at he
  split at he
  · rename_i ht; subst ht; simp at he; subst he
    obtain ⟨v, p1, p2, p3⟩ := h.env t _ hx
    exact ⟨v, p1, p2.noOwn, NotOwn.ownR (NotOwn.none _ _)⟩
  · rename_i ht
    have h1 := h.env t y he
    cases y with
    | v y => exact h1
    | b cs => exact h1
    | a u off =>
      obtain ⟨⟨cs, hu⟩, p⟩ := h1
      refine ⟨⟨cs, ?_⟩, p⟩
      rw [Env.get_ins]
      have : u ≠ x := by rintro rfl; rw [hx] at hu; simp at hu
      simp [this, hu]
end
end AM
