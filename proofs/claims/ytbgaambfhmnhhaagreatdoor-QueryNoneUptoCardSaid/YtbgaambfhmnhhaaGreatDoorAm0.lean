/- An abstract machine for the program of the seat, and what of the given program it does, part 1 of 4. Conditions: none. -/
import Derived.Orders
import Derived.Laws.AppendOwn
import Derived.Laws.StructEq
import Derived.Laws.Concat
import Derived.Laws.Cells
import Derived.Laws.CopyRow
import Derived.Laws.AppendOwnNone
/-! The abstract machine: values as data, local boxes, growable lists with one owner; its operations and its code. Conditions: none; definitions alone. -/
namespace AM
open Go

/-- The greatest length of a list or string that the abstract machine handles. -/
def M : Nat := 1099511627776

/-- Abstract values. -/
inductive AV where
  | bool (b : Bool)
  | int (k : IntKind) (n : Int)
  | str (s : List UInt8)
  | nilp
  | ptr (id off : Nat)
  | cptr (cs : List AV)
  | list (own : Option Nat) (sz : Nat) (xs : List AV)
  | map (id : Nat)
  | nilm
  | fn (f : Nat) (caps : List AV)
  | nilf
  | nili
  | nils (sz : Nat)
  | nilc (sz : Nat)
  | sl (id off n sz : Nat)
  | agg (cs : List AV)
  | tup (vs : List AV)
  deriving Inhabited

namespace AV
def cells : AV → List AV
  | .agg cs => cs
  | v => [v]
/-- A copy owns nothing. -/
def noOwn : AV → AV
  | .list _ sz xs => .list none sz xs
  | v => v
/-- A list's size of elements, and its elements. -/
def lst : AV → Option (Nat × List AV)
  | .list _ sz xs => some (sz, xs)
  | .nils sz => some (sz, [])
  | _ => none
/-- The same, or a string's bytes. -/
def lstB : Bool → AV → Option (Nat × List AV)
  | true, .str b => some (1, b.map fun c => .int .u8 c.toNat)
  | true, _ => none
  | false, v => v.lst
/-- One cell of plain data. -/
def pure1 : AV → Bool
  | .bool _ | .int _ _ | .str _ | .nilp | .nilm | .nilf | .nili | .nils _ | .cptr _ => true
  | .list none _ _ => true
  | _ => false
/-- Plain data. -/
def pure : AV → Bool
  | .agg cs => cs.all pure1
  | v => v.pure1
/-- One cell. -/
def one : AV → Bool
  | .agg _ | .tup _ => false
  | _ => true
end AV

/-- What a temporary holds: a value, a box of cells of this frame, or an address within a box. -/
inductive Ent where
  | v (x : AV)
  | b (cs : List AV)
  | a (t off : Nat)
  deriving Inhabited

/-- Objects of the abstract heap. -/
inductive AObj where
  | cells (cs : List AV)
  | buf (e : Nat) (cs : List AV)
  | map (n : Nat) (es : List (AV × AV))
  | iter (m : Option Nat) (since : Nat) (seen : List AV)
  | dead
  deriving Inhabited

abbrev Env := List (Nat × Ent)

structure St where
  env : Env
  heap : List AObj

namespace Env
def get : Env → Nat → Option Ent
  | [], _ => none
  | (k, e) :: r, t => if t = k then some e else get r t
def ins : Env → Nat → Ent → Env
  | [], t, e => [(t, e)]
  | (k, e') :: r, t, e => if t < k then (t, e) :: (k, e') :: r else if t = k then (t, e) :: r else (k, e') :: ins r t e
def del : Env → Nat → Env
  | [], _ => []
  | (k, e) :: r, t => if t = k then del r t else (k, e) :: del r t
/-- Without the addresses within the box of t. -/
def noAddr : Env → Nat → Env
  | [], _ => []
  | (k, .a u off) :: r, t => if u = t then noAddr r t else (k, .a u off) :: noAddr r t
  | (k, e) :: r, t => (k, e) :: noAddr r t
/-- At a region's end: without some temporaries, and without addresses within boxes. -/
def close : Env → List Nat → Env
  | [], _ => []
  | (_, .a _ _) :: r, ts => close r ts
  | (k, e) :: r, ts => if ts.contains k then close r ts else (k, e) :: close r ts
end Env

/-- Operands. -/
inductive Opd where
  | t (n : Nat)
  | c (x : AV)
  | f (n : Nat)
  | g (n : Nat)
  deriving Inhabited

/-- Operations. -/
inductive SOp where
  | mv (d : Nat) (x : Opd)
  | tk (d x : Nat)
  | nil_ (d e sz : Nat)
  | pick (d : Nat) (c a b : Opd)
  | bin (d m : Nat) (op : BinOp) (x y : Opd)
  | eqa (d : Nat) (ne : Bool) (ks : List Nat) (x y : Opd)
  | not_ (d : Nat) (x : Opd)
  | neg (d : Nat) (x : Opd)
  | conv (d : Nat) (k : IntKind) (x : Opd)
  | ext (d x i : Nat)
  | len (d m : Nat) (x : Opd)
  | alloc (d : Nat) (z : List AV)
  | box (d : Nat) (x : Opd)
  | allocH (d : Nat) (z : List AV)
  | boxH (d : Nat) (x : Opd)
  | boxI (d : Nat) (x : Opd)
  | build (d : Nat) (z : List AV) (parts : List (Nat × Nat × Opd))
  | lit (d sz : Nat) (xs : List Opd)
  | fa (d : Nat) (x : Opd) (off : Nat)
  | ia (d sz : Nat) (x i : Opd)
  | iaa (d : Nat) (x : Opd) (n sz : Nat) (i : Opd)
  | ld (d : Nat) (x : Opd) (n : Nat) (ag : Bool)
  | ldt (d : Nat) (x : Opd) (e sz : Nat)
  | st (n : Nat) (x v : Opd)
  | stt (x : Opd) (v : Nat)
  | idx (d : Nat) (x i : Opd)
  | slc (d sz : Nat) (x : Opd) (lo hi : Option Opd)
  | sla (d : Nat) (x : Opd) (n sz : Nat) (lo hi : Option Opd)
  | app (d s : Nat) (x : Opd) (e sz : Nat)
  | nilchk (d : Nat) (x : Opd)
  | mkfn (d f : Nat) (caps : List Opd)
  | mkself (d : Nat) (c : Opd) (e sz : Nat)
  | allocT (d e : Nat) (z : List AV)
  | cvt (d : Nat) (x : Opd) (e sz : Nat)
  | mm (d : Nat) (mx : Bool) (x y : Opd)
  | mkmap (d : Nat)
  | look (ks : List Nat) (d : Nat) (m k : Opd) (zero : AV) (ok : Bool)
  | lookT (ks : List Nat) (d : Nat) (m k : Opd) (zero : AV)
  | upd (ks : List Nat) (m k v : Opd)
  | updT (ks : List Nat) (m k : Opd) (v : Nat)
  | mdel (ks : List Nat) (d : Option Nat) (m k : Opd)
  | rng (d : Nat) (m : Opd)
  | nxt (d : Nat) (it : Opd)
  | entr (d : Nat) (it : Opd)
  | litH (d e sz : Nat) (xs : List Opd)
  | litO (d e sz : Nat) (xs : List Opd)
  | mks (d e : Nat) (z : List AV) (x : Opd)
  | apph (d e sz : Nat) (sb : Bool) (u x : Opd)
  | appc (d u : Nat) (x : Opd) (e sz : Nat)
  | appd (d u : Nat) (x : Opd) (e sz : Nat)
  | isnil (d : Nat) (ne : Bool) (x : Opd)
  | clo (d : Nat) (x : Opd) (sz : Nat)
  | sdata (d : Nat) (x : Opd)
  | ustr (d e : Nat) (x n : Opd)
  | noesc (d f : Nat) (x : Opd)
  | cmps (d f : Nat) (x y : Opd)
  | on (m : Nat) (o : SOp)
  | bad (d : Option Nat)
  | callR (d : Option Nat) (f : Nat) (xs : List Opd)
  | callG (d : Option Nat) (f u : Nat) (xs : List Opd)
  | callP (d : Option Nat) (f : Nat) (xs : List Opd)
  | callI (d : Option Nat) (f : Nat) (xs : List Opd)
  | callV (d : Option Nat) (x : Opd) (xs : List Opd)
  deriving Inhabited

/-- An operation with its guard: a temporary and what it must hold. -/
structure It where
  g : Option (Nat × Bool)
  o : SOp

inductive SCode where
  | skip
  | reg (its : List It) (drops : List Nat)
  | seq (a b : SCode)
  | cond (c : Opd) (a b : SCode)
  | block (id : Nat) (c : SCode)
  | loop (c : SCode)
  | exit (id : Nat)
  | ret
  /-- ghost: the list or string in t is no longer than M -/
  | asm (t : Nat) (c : SCode)
  /-- ghost: forget temporaries -/
  | drop (ts : List Nat) (c : SCode)
  /-- ghost: the heap slice in t becomes immutable -/
  | frz (t e sz : Nat) (c : SCode)
  | frzb (t off e sz : Nat) (c : SCode)
  /-- ghost: the object at t is not used any more -/
  | kill (t : Nat) (c : SCode)
  /-- code that is not reached -/
  | bad

inductive Ex where
  | normal | exit (id : Nat) | ret

/-- What the constants of the context are: the immutable cells of global variables. -/
abbrev Glob := Nat → Option AV

section
variable (gl : Glob)
def evO (env : Env) : Opd → Option AV
  | .t n => match Env.get env n with | some (.v x) => some x | _ => none
  | .c x => some x
  | .f n => some (.fn n [])
  | .g n => gl n
def evOs (env : Env) : List Opd → Option (List AV)
  | [] => some []
  | x :: r => match evO gl env x, evOs env r with | some v, some vs => some (v :: vs) | _, _ => none
/-- Boxes and addresses are not overwritten. -/
def okPut (env : Env) (d : Nat) : Bool := match Env.get env d with | some (.b _) => false | some (.a _ _) => false | _ => true
/-- There is an address within the box of d. -/
def hasA (env : Env) (d : Nat) : Bool := env.any fun p => match p.2 with | .a u _ => u == d | _ => false
def isA (env : Env) (d : Nat) : Bool := match Env.get env d with | some (.a _ _) => true | _ => false
def St.put (s : St) (d : Nat) (x : AV) : Option St := if okPut s.env d then some { s with env := s.env.ins d (.v x) } else none
def St.putB (s : St) (d : Nat) (cs : List AV) : Option St := if hasA s.env d || isA s.env d then none else some { s with env := s.env.ins d (.b cs) }
def St.putO (s : St) (d : Option Nat) (x : AV) : Option St := match d with | some d => s.put d x | none => some s

/-- Addresses. -/
inductive Adr where
  | bx (t off : Nat)
  | hp (id off : Nat)
  | im (cs : List AV)
def adr (env : Env) : Opd → Option Adr
  | .t n => match Env.get env n with
    | some (.b _) => some (.bx n 0)
    | some (.a t off) => some (.bx t off)
    | some (.v (.ptr id off)) => some (.hp id off)
    | some (.v (.cptr cs)) => some (.im cs)
    | _ => none
  | .g n => match gl n with | some (.cptr cs) => some (.im cs) | _ => none
  | _ => none
/-- n cells at an address. -/
def rdAt (s : St) (n : Nat) : Adr → Option (List AV)
  | .bx t off => match Env.get s.env t with
    | some (.b cs) => if off + n ≤ cs.length then some ((cs.drop off).take n) else none
    | _ => none
  | .hp id off => match s.heap[id]? with
    | some (.cells cs) => if off + n ≤ cs.length then some ((cs.drop off).take n) else none
    | some (.buf _ cs) => if off + n ≤ cs.length then some ((cs.drop off).take n) else none
    | _ => none
  | .im cs => if n ≤ cs.length then some (cs.take n) else none
def setCells : List AV → Nat → List AV → List AV
  | cs, _, [] => cs
  | cs, off, v :: r => setCells (cs.set off v) (off + 1) r
def wrAt (s : St) (vs : List AV) : Adr → Option St
  | .bx t off => match Env.get s.env t with
    | some (.b cs) => if off + vs.length ≤ cs.length then some { s with env := s.env.ins t (.b (setCells cs off vs)) } else none
    | _ => none
  | .hp id off => match s.heap[id]? with
    | some (.cells cs) => if off + vs.length ≤ cs.length then some { s with heap := s.heap.set id (.cells (setCells cs off vs)) } else none
    | some (.buf e cs) => if off + vs.length ≤ cs.length then some { s with heap := s.heap.set id (.buf e (setCells cs off vs)) } else none
    | _ => none
  | .im _ => none

def intBin (op : BinOp) (k : IntKind) (a b : Int) : Option AV :=
  match op with
  | .add => some (.int k (k.wrap (a + b)))
  | .sub => some (.int k (k.wrap (a - b)))
  | .mul => some (.int k (k.wrap (a * b)))
  | .quo => if b = 0 then none else some (.int k (k.wrap (a.tdiv b)))
  | .rem => if b = 0 then none else some (.int k (a.tmod b))
  | .eql => some (.bool (a == b))
  | .neq => some (.bool (a != b))
  | .lss => some (.bool (decide (a < b)))
  | .leq => some (.bool (decide (a ≤ b)))
  | .gtr => some (.bool (decide (a > b)))
  | .geq => some (.bool (decide (a ≥ b)))
  | _ => none
def strBin (op : BinOp) (a b : List UInt8) : Option AV :=
  match op with
  | .add => if a.length + b.length ≤ M then some (.str (a ++ b)) else none
  | .eql => some (.bool (a == b))
  | .neq => some (.bool (!(a == b)))
  | .lss => some (.bool (Op.bytesLess a b))
  | .leq => some (.bool (Op.bytesLess a b || a == b))
  | .gtr => some (.bool (!(Op.bytesLess a b || a == b)))
  | .geq => some (.bool (!(Op.bytesLess a b)))
  | _ => none
/-- Equality of one-cell data that can be compared. -/
def eq1 : AV → AV → Option Bool
  | .bool a, .bool b => some (a == b)
  | .int k a, .int k' b => if k = k' then some (a == b) else none
  | .str a, .str b => some (a == b)
  | _, _ => none
def eqs : List AV → List AV → Option Bool
  | [], [] => some true
  | x :: r, y :: r' => match eq1 x y, eqs r r' with | some a, some b => some (a && b) | _, _ => none
  | _, _ => none
/-- The kind of a scalar. -/
def knd : AV → Nat
  | .int _ _ => 0
  | .str _ => 1
  | .bool _ => 2
  | _ => 3
/-- Equality of structs of scalars of given kinds. -/
def eqsK : List Nat → List AV → List AV → Option Bool
  | [], [], [] => some true
  | k :: ks, x :: r, y :: r' => if knd x = k then (match eq1 x y, eqsK ks r r' with | some a, some b => some (a && b) | _, _ => none) else none
  | _, _, _ => none
/-- The mode: 0 numbers and strings, 2 pointers, 3 bools. -/
def binV (m : Nat) (op : BinOp) : AV → AV → Option AV
  | .int k a, .int k' b => if m = 0 ∧ k = k' then intBin op k a b else none
  | .str a, .str b => if m = 0 then strBin op a b else none
  | .bool a, .bool b => if m = 3 then (match op with | .eql => some (.bool (a == b)) | .neq => some (.bool (!(a == b))) | _ => none) else none
  | .nilp, .nilp => if m = 2 then (match op with | .eql => some (.bool true) | .neq => some (.bool false) | _ => none) else none
  | .nilp, .ptr _ _ => if m = 2 then (match op with | .eql => some (.bool false) | .neq => some (.bool true) | _ => none) else none
  | .ptr a o, .ptr a' o' => if m = 4 ∧ a = a' ∧ o = o' then (match op with | .eql => some (.bool true) | .neq => some (.bool false) | _ => none) else none
  | .ptr _ _, .nilp => if m = 2 then (match op with | .eql => some (.bool false) | .neq => some (.bool true) | _ => none) else none
  | _, _ => none
def fillParts (env : Env) : List AV → List (Nat × Nat × Opd) → Option (List AV)
  | z, [] => some z
  | z, (off, n, x) :: r => match evO gl env x with
    | some v => if v.cells.length = n ∧ off + n ≤ z.length ∧ v.cells.all AV.one then fillParts env (setCells z off (v.cells.map AV.noOwn)) r else none
    | none => none
/-- A number as a bound. -/
def bnd (env : Env) (dflt : Nat) : Option Opd → Option Int
  | none => some dflt
  | some x => match evO gl env x with | some (.int _ n) => some n | _ => none
/-- An array's cells as a list of elements of sz cells. -/
def chunk (sz : Nat) : Nat → List AV → List AV
  | 0, _ => []
  | n + 1, cs => (if sz = 1 then (cs.headD default) else .agg (cs.take sz)) :: chunk sz n (cs.drop sz)
def key1 : AV → Bool
  | .str _ => true
  | .int _ _ => true
  | .agg cs => cs.all fun | .str _ | .int _ _ | .bool _ => true | _ => false
  | _ => false
/-- A key of cells of given kinds (1 strings, 2 bools); one string as a plain key. -/
def keyFit (ks : List Nat) : AV → Bool
  | .str _ => ks == [1]
  | .agg cs => ks.length != 1 && ks.all (fun k => k == 1 || k == 2) && cs.map knd == ks
  | _ => false
/-- The first key of a map's entries fits. -/
def headFit (ks : List Nat) : List (AV × AV) → Bool
  | [] => true
  | (k, _) :: _ => keyFit ks k
def keyEq : AV → AV → Bool
  | .str a, .str b => a == b
  | .int k a, .int k' b => k == k' && a == b
  | .agg a, .agg b => eqs a b == some true
  | _, _ => false
def key1Lt : AV → AV → Bool
  | .str a, .str b => Op.bytesLess a b
  | .int _ a, .int _ b => decide (a < b)
  | .bool a, .bool b => !a && b
  | _, _ => false
def keysLt : List AV → List AV → Bool
  | x :: r, y :: r' => key1Lt x y || (eq1 x y == some true && keysLt r r')
  | _, _ => false
def keyLt : AV → AV → Bool
  | .agg a, .agg b => keysLt a b
  | x, y => key1Lt x y
def mapGet : List (AV × AV) → AV → Option AV
  | [], _ => none
  | (k, v) :: r, x => if keyEq x k then some v else mapGet r x
/-- The value at a key that is there. -/
def mapSet : List (AV × AV) → AV → AV → List (AV × AV)
  | [], _, _ => []
  | (k, u) :: r, x, v => if keyEq x k then (k, v) :: r else (k, u) :: mapSet r x v
/-- An entry that was not there. -/
def mapIns : List (AV × AV) → AV → AV → List (AV × AV)
  | [], x, v => [(x, v)]
  | (k, u) :: r, x, v => if keyLt x k then (x, v) :: (k, u) :: r else (k, u) :: mapIns r x v
def mapDel : List (AV × AV) → AV → List (AV × AV)
  | [], _ => []
  | (k, u) :: r, x => if keyEq x k then r else (k, u) :: mapDel r x
def mapPut (n : Nat) (es : List (AV × AV)) (k v : AV) : AObj := match mapGet es k with | some _ => .map n (mapSet es k v) | none => .map (n + 1) (mapIns es k v)
def bytesOf : List AV → Option (List UInt8)
  | [] => some []
  | .int .u8 n :: r => if 0 ≤ n ∧ n < 256 then (bytesOf r).map (UInt8.ofNat n.toNat :: ·) else none
  | _ => none
/-- The order of strings. -/
def cmpB : List UInt8 → List UInt8 → Int
  | [], [] => 0
  | [], _ :: _ => -1
  | _ :: _, [] => 1
  | a :: r, b :: t => if a = b then cmpB r t else if a < b then -1 else 1
/-- The kind of an address: 1 a box itself, 2 within a box, 3 none of them. -/
def adrKind (env : Env) : Opd → Nat
  | .t n => match Env.get env n with | some (.b _) => 1 | some (.a _ _) => 2 | some (.v (.cptr _)) => 3 | some (.v (.ptr _ _)) => 4 | _ => 0
  | .g _ => 3
  | _ => 0
def adrOf : SOp → Opd
  | .fa _ x _ | .ld _ x _ _ | .ldt _ x _ _ | .st _ x _ | .stt x _ | .nilchk _ x => x
  | _ => .c .nilp
/-- The candidates of a range. -/
def cands (H : List AObj) : AV → Option (Nat × Option Nat × Nat × List AV × List (AV × AV))
  | .ptr id 0 => match H[id]? with
    | some (.iter none since seen) => some (id, none, since, seen, [])
    | some (.iter (some mid) since seen) => match H[mid]? with
      | some (.map n es) => if n = since then some (id, some mid, since, seen, es.filter fun e => !seen.any (keyEq e.1)) else none
      | _ => none
    | _ => none
  | _ => none

/-- What an operation does that calls nothing. -/
def ev (s : St) : SOp → Option St
  | .mv d x => (evO gl s.env x).bind fun v => s.put d v.noOwn
  | .tk d x => match Env.get s.env x with
    | some (.v (.list (some e) sz xs)) => if d = x then none else (s.put x (.list none sz xs)).bind fun s => s.put d (.list (some e) sz xs)
    | some (.v v) => s.put d v.noOwn
    | _ => none
  | .nil_ d e sz => s.put d (.list (some e) sz [])
  | .pick d c a b => match evO gl s.env c with
    | some (.bool t) => if t = true then (evO gl s.env a).bind fun v => s.put d v.noOwn else (evO gl s.env b).bind fun v => s.put d v.noOwn
    | _ => none
  | .bin d m op x y => match evO gl s.env x, evO gl s.env y with
    | some a, some b => (binV m op a b).bind fun v => s.put d v
    | _, _ => none
  | .eqa d ne ks x y => match evO gl s.env x, evO gl s.env y with
    | some (.agg a), some (.agg b) => (eqsK ks a b).bind fun r => s.put d (.bool (if ne = true then !r else r))
    | _, _ => none
  | .not_ d x => match evO gl s.env x with | some (.bool b) => s.put d (.bool (!b)) | _ => none
  | .neg d x => match evO gl s.env x with | some (.int k n) => s.put d (.int k (k.wrap (0 - n))) | _ => none
  | .conv d k x => match evO gl s.env x with | some (.int _ n) => s.put d (.int k (k.wrap n)) | _ => none
  | .ext d x i => match Env.get s.env x with | some (.v (.tup vs)) => (vs[i]?).bind fun v => s.put d v.noOwn | _ => none
  | .len d m x => match evO gl s.env x with
    | some (.list _ _ xs) => if m = 1 then s.put d (.int .i64 xs.length) else none
    | some (.str b) => if m = 0 then s.put d (.int .i64 b.length) else none
    | some .nilm => if m = 2 then s.put d (.int .i64 0) else none
    | some (.nils _) => if m = 1 then s.put d (.int .i64 0) else none
    | some (.sl _ _ n _) => if m = 1 then s.put d (.int .i64 n) else none
    | some (.map id) => if m = 2 then (match s.heap[id]? with | some (.map _ es) => s.put d (.int .i64 es.length) | _ => none) else none
    | _ => none
  | .alloc d z => s.putB d z
  | .box d x => (evO gl s.env x).bind fun v => if v.cells.all AV.one then s.putB d (v.cells.map AV.noOwn) else none
  | .allocH d z => ({ s with heap := s.heap ++ [AObj.cells z] }).put d (.ptr s.heap.length 0)
  | .boxH d x => (evO gl s.env x).bind fun v => if v.cells.all AV.one then ({ s with heap := s.heap ++ [AObj.cells (v.cells.map AV.noOwn)] }).put d (.ptr s.heap.length 0) else none
  | .boxI d x => (evO gl s.env x).bind fun v => if v.cells.all AV.pure1 then s.put d (.cptr v.cells) else none
  | .build d z parts => (fillParts gl s.env z parts).bind fun cs => s.put d (.agg cs)
  | .lit d sz xs => (evOs gl s.env xs).bind fun vs =>
      if vs.all (fun v => v.noOwn.pure && v.cells.length == sz) && decide (vs.length ≤ 1000) then s.put d (.list none sz (vs.map AV.noOwn)) else none
  | .fa d x off => match adr gl s.env x with
    | some (.bx t o) => if okPut s.env d then some { s with env := s.env.ins d (.a t (o + off)) } else none
    | some (.hp id o) => s.put d (.ptr id (o + off))
    | some (.im cs) => if off ≤ cs.length then s.put d (.cptr (cs.drop off)) else none
    | none => none
  | .ia d sz x i => match evO gl s.env x, evO gl s.env i with
    | some (.list _ sz' xs), some (.int _ n) => if sz' = sz ∧ 0 ≤ n ∧ n < xs.length then (xs[n.toNat]?).bind fun v => s.put d (.cptr v.cells) else none
    | some (.sl id off m sz'), some (.int _ n) => if sz' = sz ∧ 0 ≤ n ∧ n < m then s.put d (.ptr id (off + n.toNat * sz)) else none
    | _, _ => none
  | .iaa d x n sz i => match adr gl s.env x, evO gl s.env i with
    | some (.bx t o), some (.int _ k) => if 0 ≤ k ∧ k < n ∧ okPut s.env d = true then some { s with env := s.env.ins d (.a t (o + k.toNat * sz)) } else none
    | some (.hp id o), some (.int _ k) => if 0 ≤ k ∧ k < n then s.put d (.ptr id (o + k.toNat * sz)) else none
    | some (.im cs), some (.int _ k) => if 0 ≤ k ∧ k < n ∧ n * sz ≤ cs.length then s.put d (.cptr (cs.drop (k.toNat * sz))) else none
    | _, _ => none
  | .ld d x n ag => (adr gl s.env x).bind fun p => (rdAt s n p).bind fun cs =>
      if ag = true then s.put d (.agg (cs.map AV.noOwn)) else match cs with | [v] => s.put d v.noOwn | _ => none
  | .ldt d x e sz => (adr gl s.env x).bind fun p => (rdAt s 1 p).bind fun cs => match cs with
      | [.list (some e) sz xs] => (wrAt s [.list none sz xs] p).bind fun s => s.put d (.list (some e) sz xs)
      | [.nils _] => s.put d (.list (some e) sz [])
      | _ => none
  | .st n x v => (adr gl s.env x).bind fun p => (evO gl s.env v).bind fun v => if v.cells.length = n ∧ v.cells.all AV.one then wrAt s (v.cells.map AV.noOwn) p else none
  | .stt x v => (adr gl s.env x).bind fun p => match Env.get s.env v with
      | some (.v (.list (some e) sz xs)) => (s.put v (.list none sz xs)).bind fun s => wrAt s [.list (some e) sz xs] p
      | _ => none
  | .idx d x i => match evO gl s.env x, evO gl s.env i with
    | some (.str b), some (.int _ n) => if 0 ≤ n then (b[n.toNat]?).bind fun c => s.put d (.int .u8 c.toNat) else none
    | _, _ => none
  | .slc d szz x lo hi => match evO gl s.env x with
    | some (.str b) => match bnd gl s.env 0 lo, bnd gl s.env b.length hi with
      | some l, some h => if szz = 0 ∧ 0 ≤ l ∧ l ≤ h ∧ h ≤ b.length then s.put d (.str ((b.take h.toNat).drop l.toNat)) else none
      | _, _ => none
    | some (.list _ sz xs) => match bnd gl s.env 0 lo, bnd gl s.env xs.length hi with
      | some l, some h => if szz = sz ∧ sz ≠ 0 ∧ 0 ≤ l ∧ l ≤ h ∧ h ≤ xs.length then s.put d (.list none sz ((xs.take h.toNat).drop l.toNat)) else none
      | _, _ => none
    | some (.nils sz) => match bnd gl s.env 0 lo, bnd gl s.env 0 hi with
      | some l, some h => if szz = sz ∧ sz ≠ 0 ∧ l = 0 ∧ h = 0 then s.put d (.nils sz) else none
      | _, _ => none
    | some (.sl id off n sz) => match bnd gl s.env 0 lo, bnd gl s.env n hi with
      | some l, some h => if szz = sz ∧ sz ≠ 0 ∧ 0 ≤ l ∧ l ≤ h ∧ h ≤ n then (if 0 < l ∧ l = h then s.put d (.list none sz []) else s.put d (.sl id (off + l.toNat * sz) (h.toNat - l.toNat) sz)) else none
      | _, _ => none
    | _ => none
  | .sla d x n sz lo hi => match adr gl s.env x with
    | some (.im cs) => if cs.length = n * sz ∧ n ≤ 1000 then match bnd gl s.env 0 lo, bnd gl s.env n hi with
      | some l, some h => if 0 ≤ l ∧ l ≤ h ∧ h ≤ n then s.put d (.list none sz (((chunk sz n cs).take h.toNat).drop l.toNat)) else none
      | _, _ => none
      else none
    | _ => none
  | .app d u x e sz => match Env.get s.env u, (evO gl s.env x).bind AV.lst with
    | some (.v (.list (some e') sz' xs)), some (sz'', ys) =>
      if e' = e ∧ sz' = sz ∧ sz'' = sz ∧ d ≠ u ∧ xs.length + ys.length ≤ M then
        (s.put u (.list none sz xs)).bind fun s => s.put d (.list (some e) sz (xs ++ ys)) else none
    | some (.v (.nils sz')), some (sz'', ys) => if sz' = sz ∧ sz'' = sz ∧ d ≠ u ∧ ys.length ≤ M then s.put d (.list (some e) sz ys) else none
    | _, _ => none
  | .nilchk d x => match x with
    | .t n => match Env.get s.env n with
      | some (.b _) => if okPut s.env d then some { s with env := s.env.ins d (.a n 0) } else none
      | some (.a t off) => if okPut s.env d then some { s with env := s.env.ins d (.a t off) } else none
      | some (.v (.ptr id off)) => s.put d (.ptr id off)
      | some (.v (.cptr cs)) => s.put d (.cptr cs)
      | _ => none
    | _ => none
  | .mkfn d f caps => (evOs gl s.env caps).bind fun vs => if vs.all AV.one then s.put d (.fn f (vs.map AV.noOwn)) else none
  | .mkself d c e sz => match evO gl s.env c with
    | some (.int _ n) => if 0 ≤ n ∧ n ≤ M then s.put d (.list (some e) sz []) else none
    | _ => none
  | .allocT d e z => ({ s with heap := s.heap ++ [AObj.buf e z, .dead] }).put d (.ptr s.heap.length 0)
  | .cvt d x e sz => match evO gl s.env x with
    | some (.ptr id 0) => (match s.heap[id]? with | some (.buf e' cs) => if e' = e ∧ sz ≤ cs.length then s.put d (.ptr id 0) else none | _ => none)
    | _ => none
  | .mm d mx x y => match evO gl s.env x, evO gl s.env y with
    | some (.int k a), some (.int _ b) => s.put d (.int k (if mx = true then (if b > a then b else a) else (if b < a then b else a)))
    | _, _ => none
  | .mkmap d => ({ s with heap := s.heap ++ [AObj.map 0 []] }).put d (.map s.heap.length)
  | .look ks d m k zero ok => match evO gl s.env m, evO gl s.env k with
    | some (.map id), some kk => match s.heap[id]? with
      | some (.map _ es) => if keyFit ks kk && headFit ks es then
          (match mapGet es kk with
           | some v => s.put d (if ok = true then .tup [v.noOwn, .bool true] else v.noOwn)
           | none => s.put d (if ok = true then .tup [zero, .bool false] else zero)) else none
      | _ => none
    | some .nilm, some kk => if keyFit ks kk then s.put d (if ok = true then .tup [zero, .bool false] else zero) else none
    | _, _ => none
  | .lookT ks d m k zero => match evO gl s.env m, evO gl s.env k with
    | some (.map id), some kk => match s.heap[id]? with
      | some (.map n es) => if keyFit ks kk && headFit ks es then
          (match mapGet es kk with
           | some (.list (some e) sz xs) => ({ s with heap := s.heap.set id (.map n (mapSet es kk (.list none sz xs))) }).put d (.list (some e) sz xs)
           | some _ => none
           | none => s.put d zero) else none
      | _ => none
    | _, _ => none
  | .upd ks m k v => match evO gl s.env m, evO gl s.env k, evO gl s.env v with
    | some (.map id), some kk, some v => match s.heap[id]? with
      | some (.map n es) => if keyFit ks kk && headFit ks es then some { s with heap := s.heap.set id (mapPut n es kk v.noOwn) } else none
      | _ => none
    | _, _, _ => none
  | .updT ks m k v => match evO gl s.env m, evO gl s.env k, Env.get s.env v with
    | some (.map id), some kk, some (.v (.list (some e) sz xs)) => match s.heap[id]? with
      | some (.map n es) => if keyFit ks kk && headFit ks es then ({ s with heap := s.heap.set id (mapPut n es kk (.list (some e) sz xs)) }).put v (.list none sz xs) else none
      | _ => none
    | _, _, _ => none
  | .mdel ks d m k => match evO gl s.env m, evO gl s.env k with
    | some (.map id), some kk => match s.heap[id]? with
      | some (.map n es) => if keyFit ks kk && headFit ks es then ({ s with heap := s.heap.set id (.map n (mapDel es kk)) }).putO d (.tup []) else none
      | _ => none
    | _, _ => none
  | .rng d m => match evO gl s.env m with
    | some (.map id) => match s.heap[id]? with
      | some (.map n _) => ({ s with heap := s.heap ++ [AObj.iter (some id) n []] }).put d (.ptr s.heap.length 0)
      | _ => none
    | some .nilm => ({ s with heap := s.heap ++ [AObj.iter none 0 []] }).put d (.ptr s.heap.length 0)
    | _ => none
  | .entr d it => match evO gl s.env it with
    | some (.ptr id 0) => match s.heap[id]? with
      | some (.iter (some mid) since seen) => match s.heap[mid]?, seen.getLast? with
        | some (.map n es), some k => if n = since then (mapGet es k).bind fun v => s.put d (.tup [k, v.noOwn]) else none
        | _, _ => none
      | _ => none
    | _ => none
  | .litO d e sz xs => (evOs gl s.env xs).bind fun vs =>
      if vs.all (fun v => v.noOwn.pure && v.cells.length == sz) && decide (vs.length ≤ 1000) then s.put d (.list (some e) sz (vs.map AV.noOwn)) else none
  | .litH d e sz xs => (evOs gl s.env xs).bind fun vs =>
      if vs.all (fun v => v.cells.length == sz && v.cells.all AV.one) && decide (vs.length ≤ 1000) && sz != 0 then
        ({ s with heap := s.heap ++ [AObj.buf e (vs.map fun v : AV => v.cells.map AV.noOwn).flatten, .dead] }).put d (.sl s.heap.length 0 vs.length sz) else none
  | .mks d e z x => match evO gl s.env x with
    | some (.int _ n) => if 0 ≤ n ∧ n ≤ 100000 then ({ s with heap := s.heap ++ [AObj.buf e (List.replicate n.toNat z).flatten, .dead] }).put d (.sl s.heap.length 0 n.toNat z.length) else none
    | _ => none
  | .apph d e sz sb u x => match evO gl s.env u, (evO gl s.env x).bind (AV.lstB sb) with
    | some (.nils sz0), some (sz', ys) => if sz0 = sz ∧ sz' = sz ∧ ys.length ≤ M then match ys with
        | [] => s.put d (.nils sz)
        | _ :: _ => ({ s with heap := s.heap ++ [AObj.buf e (ys.map fun v : AV => v.cells.map AV.noOwn).flatten, .dead] }).put d (.sl s.heap.length 0 ys.length sz)
        else none
    | some (.sl id 0 n sz0), some (sz', ys) => match s.heap[id]? with
      | some (.buf e' cs) => if e' = e ∧ sz0 = sz ∧ sz' = sz ∧ n * sz ≤ cs.length ∧ n + ys.length ≤ M then
          ({ s with heap := s.heap.set id .dead ++ [AObj.buf e ((cs.take (n * sz)).map AV.noOwn ++ (ys.map fun v : AV => v.cells.map AV.noOwn).flatten), .dead] }).put d (.sl s.heap.length 0 (n + ys.length) sz) else none
      | _ => none
    | _, _ => none
  | .appc d u x e sz => match Env.get s.env u, (evO gl s.env x).bind AV.lst with
    | some (.v (.nilc sz')), some (sz'', ys) => if sz' = sz ∧ sz'' = sz ∧ ys.length ≤ M then match ys with
        | [] => s.put d (.list none sz [])
        | _ :: _ => s.put d (.list (some e) sz ys)
        else none
    | _, _ => none
  | .appd d u x e sz => match Env.get s.env u, (evO gl s.env x).bind AV.lst with
    | some (.v (.nilc sz')), some (sz'', ys) => if sz' = sz ∧ sz'' = sz ∧ ys.length ≤ M then match ys with
        | [] => s.put d (.list none sz [])
        | _ :: _ => ({ s with heap := s.heap ++ [AObj.buf e (ys.map fun v : AV => v.cells.map AV.noOwn).flatten, .dead] }).put d (.sl s.heap.length 0 ys.length sz)
        else none
    | _, _ => none
  | .isnil d ne x => match evO gl s.env x with
    | some (.nils _) => s.put d (.bool (!ne))
    | some (.list _ _ (_ :: _)) => s.put d (.bool ne)
    | _ => none
  | .clo d x sz => match evO gl s.env x with
    | some (.list _ sz' _) => if sz' = sz then s.put d (.nilc sz) else none
    | some (.nils sz') => if sz' = sz then s.put d (.nilc sz) else none
    | _ => none
  | .sdata d x => match evO gl s.env x with
    | some (.sl id off n _) => if 0 < n then s.put d (.ptr id off) else none
    | some (.nils _) => s.put d .nilp
    | _ => none
  | .ustr d e x n => match evO gl s.env x, evO gl s.env n with
    | some (.ptr id 0), some (.int .i64 n) => match s.heap[id]? with
      | some (.buf e' cs) => if e' = e ∧ 0 < n ∧ n ≤ cs.length ∧ n ≤ M then (bytesOf (cs.take n.toNat)).bind fun b => ({ s with heap := s.heap.set id .dead }).put d (.str b) else none
      | _ => none
    | some .nilp, some (.int .i64 n) => if n = 0 then s.put d (.str []) else none
    | _, _ => none
  | .noesc d _ x => (evO gl s.env x).bind fun v => s.put d v.noOwn
  | .cmps d _ x y => match evO gl s.env x, evO gl s.env y with
    | some (.str a), some (.str b) => s.put d (.int .i64 (cmpB a b))
    | _, _ => none
  | .on m o => if adrKind s.env (adrOf o) = m then ev s o else none
  | .bad _ => none
  | .nxt .. | .callR .. | .callG .. | .callP .. | .callI .. | .callV .. => none
end
end AM
/-! The relation between the abstract machine's states and the model's. -/
namespace AM
open Go

abbrev Gam := Nat → Nat → Option Value

mutual
/-- Plain data in immutable cells. -/
inductive PR (γ : Gam) : AV → Value → Prop where
  | bool (b : Bool) : PR γ (.bool b) (.bool b)
  | int (k : IntKind) (n : Int) : PR γ (.int k n) (.int k n)
  | str (s : List UInt8) : s.length ≤ M → PR γ (.str s) (.string ⟨s.toArray⟩)
  | nilp : PR γ .nilp (.pointer none)
  | nilm : PR γ .nilm (.map none)
  | nilf : PR γ .nilf .nilFunc
  | nili : PR γ .nili .nilIface
  | nils (sz : Nat) : PR γ (.nils sz) (.slice none 0 0)
  | cptr (b off : Nat) (cs : List AV) : PRc γ b off cs → PR γ (.cptr cs) (.pointer (some ⟨b, off, none⟩))
  | list0 (sz : Nat) (base : Option Addr) (cap : Nat) : PR γ (.list none sz []) (.slice base 0 cap)
  | list (b off cap sz : Nat) (xs : List AV) : xs.length ≤ M → xs.length ≤ cap → PRr γ b off sz xs → PR γ (.list none sz xs) (.slice (some ⟨b, off, none⟩) xs.length cap)
  | agg (cs : List AV) (ws : List Value) : PRs γ cs ws → PR γ (.agg cs) (.agg ws.toArray)
inductive PRc (γ : Gam) : Nat → Nat → List AV → Prop where
  | nil (b off : Nat) : PRc γ b off []
  | cons (b off : Nat) (c : AV) (cs : List AV) (v : Value) : γ b off = some v → v.oneCell' = true → PR γ c v → PRc γ b (off + 1) cs → PRc γ b off (c :: cs)
inductive PRr (γ : Gam) : Nat → Nat → Nat → List AV → Prop where
  | nil (b off sz : Nat) : PRr γ b off sz []
  | cons (b off sz : Nat) (x : AV) (xs : List AV) : x.cells.length = sz → PRc γ b off x.cells → PRr γ b (off + sz) sz xs → PRr γ b off sz (x :: xs)
inductive PRs (γ : Gam) : List AV → List Value → Prop where
  | nil : PRs γ [] []
  | cons (c : AV) (cs : List AV) (v : Value) (ws : List Value) : v.oneCell' = true → PR γ c v → PRs γ cs ws → PRs γ (c :: cs) (v :: ws)
end

/-- Who owns a block. -/
inductive Owner where
  | none | outer | junk
  | var (t : Nat)
  | bx (t : Nat)
  | bc (t i : Nat)
  | ob (id : Nat)
  | oc (id i : Nat)
  deriving DecidableEq

structure Gh where
  γ : Gam
  Ω : Nat → Owner
  ρ : Nat → Option Nat

mutual
inductive VR (g : Gh) : AV → Value → Prop where
  | pure (x : AV) (v : Value) : PR g.γ x v → VR g x v
  | own (e sz : Nat) (xs : List AV) (v : Value) : PR g.γ (.list none sz xs) v → VR g (.list (some e) sz xs) v
  | ptr (id off b : Nat) : g.ρ id = some b → VR g (.ptr id off) (.pointer (some ⟨b, off, none⟩))
  | map (id b : Nat) : g.ρ id = some b → VR g (.map id) (.map (some b))
  | nilc (sz : Nat) (base : Option Addr) : VR g (.nilc sz) (.slice base 0 0)
  | sl (id off n sz b k cap : Nat) : g.ρ id = some b → g.ρ (id + 1) = some k → off + cap * sz = k → n ≤ cap → VR g (.sl id off n sz) (.slice (some ⟨b, off, none⟩) n cap)
  | fn (f : Nat) (cs : List AV) (ws : List Value) : VRs g cs ws → VR g (.fn f cs) (.func (.func f) #[] ws.toArray)
  | agg (cs : List AV) (ws : List Value) : VRs g cs ws → (∀ w ∈ ws, w.oneCell' = true) → VR g (.agg cs) (.agg ws.toArray)
  | tup (cs : List AV) (ws : List Value) : VRs g cs ws → VR g (.tup cs) (.tuple ws.toArray)
inductive VRs (g : Gh) : List AV → List Value → Prop where
  | nil : VRs g [] []
  | cons (c : AV) (cs : List AV) (v : Value) (ws : List Value) : VR g c v → VRs g cs ws → VRs g (c :: cs) (v :: ws)
end

/-- Immutable cells stay. -/
def GamLe (γ γ' : Gam) : Prop := ∀ b o v, γ b o = some v → γ' b o = some v

theorem PR.mono {γ γ' : Gam} (h : GamLe γ γ') {x : AV} {v : Value} (hx : PR γ x v) : PR γ' x v := by
  refine PR.rec (motive_1 := fun x v _ => PR γ' x v) (motive_2 := fun b off cs _ => PRc γ' b off cs) (motive_3 := fun b off sz xs _ => PRr γ' b off sz xs)
    (motive_4 := fun cs ws _ => PRs γ' cs ws) ?_ ?_ ?_ ?_ ?_ ?_ ?_ ?_ ?_ ?_ ?_ ?_ ?_ ?_ ?_ ?_ ?_ ?_ hx
  · exact fun b => .bool b
  · exact fun k n => .int k n
  · exact fun s hs => .str s hs
  · exact .nilp
  · exact .nilm
  · exact .nilf
  · exact .nili
  · exact fun sz => .nils sz
  · exact fun b off cs _ h => .cptr b off cs h
  · exact fun sz base cap => .list0 sz base cap
  · exact fun b off cap sz xs h1 h1' _ h2 => .list b off cap sz xs h1 h1' h2
  · exact fun cs ws _ h => .agg cs ws h
  · exact fun b off => .nil b off
  · exact fun b off c cs v h1 h2 _ _ h3 h4 => .cons b off c cs v (h _ _ _ h1) h2 h3 h4
  · exact fun b off sz => .nil b off sz
  · exact fun b off sz x xs h1 _ _ h2 h3 => .cons b off sz x xs h1 h2 h3
  · exact .nil
  · exact fun c cs v ws h1 _ _ h2 h3 => .cons c cs v ws h1 h2 h3

theorem PRc.mono {γ γ' : Gam} (h : GamLe γ γ') : ∀ {cs : List AV} {b off : Nat}, PRc γ b off cs → PRc γ' b off cs
  | [], _, _, _ => .nil _ _
  | _ :: _, _, _, .cons _ _ _ _ v h1 h2 h3 h4 => .cons _ _ _ _ v (h _ _ _ h1) h2 (h3.mono h) (PRc.mono h h4)
theorem PRr.mono {γ γ' : Gam} (h : GamLe γ γ') : ∀ {xs : List AV} {b off sz : Nat}, PRr γ b off sz xs → PRr γ' b off sz xs
  | [], _, _, _, _ => .nil _ _ _
  | _ :: _, _, _, _, .cons _ _ _ _ _ h1 h2 h3 => .cons _ _ _ _ _ h1 (h2.mono h) (PRr.mono h h3)

/-- The ghost grows. -/
structure GhLe (g g' : Gh) : Prop where
  γ : GamLe g.γ g'.γ
  ρ : ∀ id b, g.ρ id = some b → g'.ρ id = some b

theorem VR.mono {g g' : Gh} (h : GhLe g g') {x : AV} {v : Value} (hx : VR g x v) : VR g' x v := by
  refine VR.rec (motive_1 := fun x v _ => VR g' x v) (motive_2 := fun cs ws _ => VRs g' cs ws) ?_ ?_ ?_ ?_ ?_ ?_ ?_ ?_ ?_ ?_ ?_ hx
  · exact fun x v hp => .pure x v (hp.mono h.γ)
  · exact fun e sz xs v hp => .own e sz xs v (hp.mono h.γ)
  · exact fun id off b hb => .ptr id off b (h.ρ _ _ hb)
  · exact fun id b hb => .map id b (h.ρ _ _ hb)
  · exact fun sz base => .nilc sz base
  · exact fun id off n sz b k cap h1 h2 h3 h4 => .sl id off n sz b k cap (h.ρ _ _ h1) (h.ρ _ _ h2) h3 h4
  · exact fun f cs ws _ hc => .fn f cs ws hc
  · exact fun cs ws _ h1 hc => .agg cs ws hc h1
  · exact fun cs ws _ hc => .tup cs ws hc
  · exact .nil
  · exact fun c cs v ws _ _ h1 h2 => .cons c cs v ws h1 h2

theorem VRs.mono {g g' : Gh} (h : GhLe g g') : ∀ {cs : List AV} {ws : List Value}, VRs g cs ws → VRs g' cs ws
  | [], _, .nil => .nil
  | _ :: _, _, .cons _ _ _ _ h1 h2 => .cons _ _ _ _ (h1.mono h) (VRs.mono h h2)

/-- A list that is owned: its block's owner is 'o', its spare cells are nobody's. -/
def OwnR (P : Program) (g : Gh) (w : World) (o : Owner) (x : AV) (v : Value) : Prop :=
  ∀ e sz xs, x = .list (some e) sz xs → ∃ i z vs, P.info? e = some i ∧ i.size = sz ∧ 0 < sz ∧ i.zero = some z ∧ z.cells.size = sz ∧ i.bytes ≤ 128 ∧
    xs.length ≤ M ∧ w.ownsRow 0 e sz v xs.length vs ∧ ∀ b, v.ownBlock = some b → g.Ω b = o ∧ PRr g.γ b 0 sz xs ∧ ∀ off, xs.length * sz ≤ off → g.γ b off = none

/-- A block of cells that this frame may write. -/
def BlkR (P : Program) (g : Gh) (w : World) (b : Nat) (o : Owner) (oc : Nat → Owner) (cs : List AV) : Prop :=
  ∃ arr ty, w.heap[b]? = some (.cells arr ty (0, 0)) ∧ cs.length ≤ arr.size ∧ g.Ω b = o ∧ (∀ off, g.γ b off = none) ∧
    ∀ i c, cs[i]? = some c → ∃ v, arr[i]? = some v ∧ v.oneCell' = true ∧ VR g c v ∧ OwnR P g w (oc i) c v

def ptrTo (b off : Nat) : Value := .pointer (some ⟨b, off, none⟩)

def EntR (P : Program) (g : Gh) (env : Env) (a : Act) (w : World) (t : Nat) : Ent → Prop
  | .v x => ∃ v, a.tmps[t]? = some v ∧ VR g x v ∧ OwnR P g w (.var t) x v
  | .b cs => ∃ b, a.tmps[t]? = some (ptrTo b 0) ∧ BlkR P g w b (.bx t) (.bc t) cs
  | .a u off => (∃ cs, env.get u = some (.b cs)) ∧ ∃ b, a.tmps[t]? = some (ptrTo b off) ∧ a.tmps[u]? = some (ptrTo b 0)

/-- An entry of a map. -/
def EntryR (P : Program) (g : Gh) (w : World) (id : Nat) (e : AV × AV) (m : MapEntry) : Prop :=
  VR g e.1 m.key ∧ key1 e.1 = true ∧ VR g e.2 m.val ∧ OwnR P g w (.oc id m.born) e.2 m.val
/-- Entries in some order. -/
def EntriesR (P : Program) (g : Gh) (w : World) (id : Nat) (es : List (AV × AV)) (arr : List MapEntry) : Prop :=
  ∃ es' : List (AV × AV), es'.Perm es ∧ es'.length = arr.length ∧ ∀ (i : Nat) e m, es'[i]? = some e → arr[i]? = some m → EntryR P g w id e m
/-- The block of a map. -/
def MapR (P : Program) (g : Gh) (w : World) (id b n : Nat) (es : List (AV × AV)) : Prop :=
  ∃ arr, w.heap[b]? = some (.map arr n) ∧ g.Ω b = .ob id ∧ EntriesR P g w id es arr.toList ∧
    arr.toList.Pairwise (fun x y => x.born < y.born) ∧ (∀ m ∈ arr.toList, m.born < n) ∧ es.Pairwise (fun x y => keyEq x.1 y.1 = false) ∧ ∃ ks, ∀ e ∈ es, keyFit ks e.1 = true
/-- What has been seen of a map. -/
def SeenR (w : World) (bm since : Nat) (seen : List AV) (ss : List Nat) : Prop :=
  ∃ L : List (AV × Nat), L.Pairwise (fun x y => keyEq x.1 y.1 = false ∧ x.2 ≠ y.2) ∧ (∀ x ∈ L, x.2 < since ∧ key1 x.1 = true) ∧ seen.length = ss.length ∧
    (∀ (i : Nat) k s, seen[i]? = some k → ss[i]? = some s → (k, s) ∈ L) ∧
    ∀ arr, w.heap[bm]? = some (.map arr since) → ∀ m ∈ arr.toList, ∃ k, (k, m.born) ∈ L ∧ PR (fun _ _ => none) k m.key
def IterR (g : Gh) (w : World) (since : Nat) (seen : List AV) : Option Nat → Obj → Prop
  | none, .mapIter none _ _ _ => True
  | some mid, .mapIter (some bm) s ss last => g.ρ mid = some bm ∧ g.Ω bm = .ob mid ∧ s = since ∧ last = since ∧ SeenR w bm since seen ss.toList ∧ ∃ arr n, w.heap[bm]? = some (.map arr n) ∧ since ≤ n
  | _, _ => False
def ObjR (P : Program) (g : Gh) (w : World) (id : Nat) : AObj → Prop
  | .cells cs => ∃ b, g.ρ id = some b ∧ BlkR P g w b (.ob id) (.oc id) cs
  | .buf e cs => ∃ b k, g.ρ id = some b ∧ g.ρ (id + 1) = some k ∧ BlkR P g w b (.ob id) (.oc id) cs ∧
      (∃ arr, w.heap[b]? = some (.cells arr e (0, 0)) ∧ arr.size = k) ∧ ∃ i z, P.info? e = some i ∧ 0 < i.size ∧ i.zero = some z ∧ z.cells.size = i.size ∧ i.bytes ≤ 128 ∧ k ≤ maxLen * i.size
  | .map n es => ∃ b, g.ρ id = some b ∧ MapR P g w id b n es
  | .iter m since seen => ∃ b o, g.ρ id = some b ∧ w.heap[b]? = some o ∧ g.Ω b = .ob id ∧ IterR g w since seen m o
  | .dead => True

structure Rel (P : Program) (gl : Glob) (N : Nat) (g : Gh) (s : St) (a : Act) (w : World) : Prop where
  sorted : s.env.Pairwise fun p q => p.1 < q.1
  size : a.tmps.size = N
  defers : a.defers = []
  env : ∀ t e, s.env.get t = some e → EntR P g s.env a w t e
  heap : ∀ (id : Nat) o, s.heap[id]? = some o → ObjR P g w id o
  gam : ∀ b off v, g.γ b off = some v → w.cell? ⟨b, off, none⟩ = some v
  own : ∀ b, g.Ω b ≠ .none → b < w.heap.size
  glob : ∀ n x, gl n = some x → PR g.γ x (ptrTo n 0)
  rho : ∀ id b, g.ρ id = some b → id < s.heap.length

/-- From one state to a later one: the ghost grows, what is outside stays. -/
structure GLe (g : Gh) (w : World) (g' : Gh) (w' : World) : Prop extends GhLe g g' where
  outer : ∀ b, g.Ω b = .outer → g'.Ω b = .outer ∧ w'.heap[b]? = w.heap[b]? ∧ ∀ o, g'.γ b o = g.γ b o
  size : w.heap.size ≤ w'.heap.size
  os : (w'.os, w'.tape) = (w.os, w.tape)
  out : w'.output = w.output

theorem GLe.refl (g : Gh) (w : World) : GLe g w g w := ⟨⟨fun _ _ _ h => h, fun _ _ h => h⟩, fun _ h => ⟨h, rfl, fun _ => rfl⟩, Nat.le_refl _, rfl, rfl⟩
theorem GLe.trans {g g' g'' : Gh} {w w' w'' : World} (h : GLe g w g' w') (h' : GLe g' w' g'' w'') : GLe g w g'' w'' :=
  ⟨⟨fun _ _ _ x => h'.γ _ _ _ (h.γ _ _ _ x), fun _ _ x => h'.ρ _ _ (h.ρ _ _ x)⟩,
   fun b hb => by
    obtain ⟨h1, h2, h3⟩ := h.outer b hb
    obtain ⟨h4, h5, h6⟩ := h'.outer b h1
    exact ⟨h4, h5.trans h2, fun o => (h6 o).trans (h3 o)⟩, Nat.le_trans h.size h'.size, h'.os.trans h.os, h'.out.trans h.out⟩

/-- Blocks of kept owners stay as they were. -/
def Kept (g : Gh) (w : World) (g' : Gh) (w' : World) (K : Owner → Prop) : Prop :=
  ∀ b, K (g.Ω b) → g'.Ω b = g.Ω b ∧ w'.heap[b]? = w.heap[b]? ∧ ∀ o, g'.γ b o = g.γ b o

theorem OwnR.of_ne {P : Program} {g : Gh} {w : World} {o : Owner} {x : AV} {v : Value} (h : ∀ e sz xs, x ≠ .list (some e) sz xs) : OwnR P g w o x v :=
  fun e sz xs hx => absurd hx (h e sz xs)
theorem OwnR.noOwn {P : Program} {g : Gh} {w : World} {o : Owner} {x : AV} {v : Value} : OwnR P g w o x.noOwn v :=
  .of_ne fun e sz xs h => by cases x <;> simp [AV.noOwn] at h

theorem ownsRow_kept {w w' : World} {base : Nat} {e size : Nat} {v : Value} {n : Nat} {xs : List Value} (h : w.ownsRow base e size v n xs)
    (hk : ∀ b, v.ownBlock = some b → w'.heap[b]? = w.heap[b]?) : w'.ownsRow base e size v n xs := by
  refine ⟨h.1, ?_⟩
  rcases h.2 with h | ⟨g, cap, cur, rfl, h1, h2, h3⟩
  · exact .inl h
  · exact .inr ⟨g, cap, cur, rfl, h1, (hk g rfl).trans h2, h3⟩

theorem OwnR.kept {P : Program} {g g' : Gh} {w w' : World} {K : Owner → Prop} {o : Owner} {x : AV} {v : Value} (h : OwnR P g w o x v) (hg : GhLe g g')
    (hk : Kept g w g' w' K) (ho : K o) : OwnR P g' w' o x v := by
  intro e sz xs hx
  obtain ⟨i, z, vs, h1, h2, h3, h4, h5, h6, h6', h7, h8⟩ := h e sz xs hx
  refine ⟨i, z, vs, h1, h2, h3, h4, h5, h6, h6', ownsRow_kept h7 fun b hb => ?_, fun b hb => ?_⟩
  · have := (h8 b hb).1
    exact (hk b (by rw [this]; exact ho)).2.1
  · obtain ⟨h9, h10, h11⟩ := h8 b hb
    obtain ⟨k1, k2, k3⟩ := hk b (by rw [h9]; exact ho)
    exact ⟨k1.trans h9, h10.mono hg.γ, fun off hoff => (k3 off).trans (h11 off hoff)⟩

theorem BlkR.kept {P : Program} {g g' : Gh} {w w' : World} {K : Owner → Prop} {b : Nat} {o : Owner} {oc : Nat → Owner} {cs : List AV} (h : BlkR P g w b o oc cs)
    (hg : GhLe g g') (hk : Kept g w g' w' K) (ho : K o) (hoc : ∀ i, K (oc i)) : BlkR P g' w' b o oc cs := by
  obtain ⟨arr, ty, h1, h2, h3, h4, h5⟩ := h
  obtain ⟨k1, k2, k3⟩ := hk b (by rw [h3]; exact ho)
  refine ⟨arr, ty, k2.trans h1, h2, k1.trans h3, fun off => (k3 off).trans (h4 off), fun i c hc => ?_⟩
  obtain ⟨v, h6, h7, h8, h9⟩ := h5 i c hc
  exact ⟨v, h6, h7, h8.mono hg, h9.kept hg hk (hoc i)⟩

theorem EntR.kept {P : Program} {g g' : Gh} {w w' : World} {K : Owner → Prop} {env : Env} {a : Act} {t : Nat} {e : Ent} (h : EntR P g env a w t e)
    (hg : GhLe g g') (hk : Kept g w g' w' K) (h1 : K (.var t)) (h2 : K (.bx t)) (h3 : ∀ i, K (.bc t i)) : EntR P g' env a w' t e := by
  cases e with
  | v x => obtain ⟨v, p1, p2, p3⟩ := h; exact ⟨v, p1, p2.mono hg, p3.kept hg hk h1⟩
  | b cs => obtain ⟨b, p1, p2⟩ := h; exact ⟨b, p1, p2.kept hg hk h2 h3⟩
  | a u off => exact h

theorem EntriesR.kept {P : Program} {g g' : Gh} {w w' : World} {K : Owner → Prop} {id : Nat} {es : List (AV × AV)} {arr : List MapEntry} (h : EntriesR P g w id es arr)
    (hg : GhLe g g') (hk : Kept g w g' w' K) (h3 : ∀ i, K (.oc id i)) : EntriesR P g' w' id es arr := by
  obtain ⟨es', p1, p2, p3⟩ := h
  refine ⟨es', p1, p2, fun i e m he hm => ?_⟩
  obtain ⟨q1, q2, q3, q4⟩ := p3 i e m he hm
  exact ⟨q1.mono hg, q2, q3.mono hg, q4.kept hg hk (h3 _)⟩
theorem MapR.kept {P : Program} {g g' : Gh} {w w' : World} {K : Owner → Prop} {id b n : Nat} {es : List (AV × AV)} (h : MapR P g w id b n es)
    (hg : GhLe g g') (hk : Kept g w g' w' K) (h2 : K (.ob id)) (h3 : ∀ i, K (.oc id i)) : MapR P g' w' id b n es := by
  obtain ⟨arr, p1, p2, p3, p4⟩ := h
  obtain ⟨k1, k2, _⟩ := hk b (by rw [p2]; exact h2)
  exact ⟨arr, k2.trans p1, k1.trans p2, p3.kept hg hk h3, p4⟩
theorem SeenR.kept {w w' : World} {bm since : Nat} {seen : List AV} {ss : List Nat} (h : SeenR w bm since seen ss) (hk : w'.heap[bm]? = w.heap[bm]?) : SeenR w' bm since seen ss := by
  obtain ⟨L, h1, h2, h3, h4, h5⟩ := h
  exact ⟨L, h1, h2, h3, h4, fun arr ha => h5 arr (hk ▸ ha)⟩
theorem IterR.kept {g g' : Gh} {w w' : World} {K : Owner → Prop} {since : Nat} {seen : List AV} {m : Option Nat} {o : Obj} (h : IterR g w since seen m o)
    (hg : GhLe g g') (hk : Kept g w g' w' K) (hK : ∀ mid, m = some mid → K (.ob mid)) : IterR g' w' since seen m o := by
  cases m with
  | none => cases o <;> first | exact h | skip
            rename_i mp _ _ _
            cases mp <;> exact h
  | some mid =>
    cases o <;> try exact h
    rename_i mp s ss last
    cases mp with
    | none => exact h
    | some bm =>
      obtain ⟨p1, p2, p3, p4, p5, arr, n, p6, p7⟩ := h
      obtain ⟨k1, k2, _⟩ := hk bm (by rw [p2]; exact hK mid rfl)
      exact ⟨hg.ρ _ _ p1, k1.trans p2, p3, p4, p5.kept k2, arr, n, k2.trans p6, p7⟩
theorem ObjR.kept {P : Program} {g g' : Gh} {w w' : World} {K : Owner → Prop} {id : Nat} {o : AObj} (h : ObjR P g w id o)
    (hg : GhLe g g') (hk : Kept g w g' w' K) (h2 : ∀ id, K (.ob id)) (h3 : ∀ i, K (.oc id i)) : ObjR P g' w' id o := by
  cases o with
  | cells cs => obtain ⟨b, p1, p2⟩ := h; exact ⟨b, hg.ρ _ _ p1, p2.kept hg hk (h2 id) h3⟩
  | buf e cs =>
    obtain ⟨b, k, p1, p2, p3, ⟨arr, p4, p5⟩, p6⟩ := h
    obtain ⟨_, _, _, _, q3, _⟩ := p3
    refine ⟨b, k, hg.ρ _ _ p1, hg.ρ _ _ p2, BlkR.kept ⟨_, _, ‹_›, ‹_›, q3, ‹_›⟩ hg hk (h2 id) h3, ⟨arr, ?_, p5⟩, p6⟩
    exact (hk b (by rw [q3]; exact h2 id)).2.1.trans p4
  | map n es => obtain ⟨b, p1, p2⟩ := h; exact ⟨b, hg.ρ _ _ p1, p2.kept hg hk (h2 id) h3⟩
  | iter m since seen =>
    obtain ⟨b, o, p1, p2, p3, p4⟩ := h
    obtain ⟨k1, k2, _⟩ := hk b (by rw [p3]; exact h2 id)
    exact ⟨b, o, hg.ρ _ _ p1, k2.trans p2, k1.trans p3, p4.kept hg hk fun mid _ => h2 mid⟩
  | dead => trivial

/-- An object beside one whose block is written. -/
theorem ObjR.beside {P : Program} {g g' : Gh} {w w' : World} {K : Owner → Prop} {id id' b : Nat} {o : AObj} (h : ObjR P g w id' o)
    (hg : GhLe g g') (hk : Kept g w g' w' K) (hid : id' ≠ id) (hb : g.ρ id = some b) (hm : ∀ arr n, w.heap[b]? ≠ some (.map arr n)) (h2 : ∀ i, i ≠ id → K (.ob i)) (h3 : ∀ i, K (.oc id' i)) : ObjR P g' w' id' o := by
  cases o with
  | cells cs => obtain ⟨b, p1, p2⟩ := h; exact ⟨b, hg.ρ _ _ p1, p2.kept hg hk (h2 _ hid) h3⟩
  | buf e cs =>
    obtain ⟨b, k, p1, p2, p3, ⟨arr, p4, p5⟩, p6⟩ := h
    obtain ⟨_, _, _, _, q3, _⟩ := p3
    refine ⟨b, k, hg.ρ _ _ p1, hg.ρ _ _ p2, BlkR.kept ⟨_, _, ‹_›, ‹_›, q3, ‹_›⟩ hg hk (h2 _ hid) h3, ⟨arr, ?_, p5⟩, p6⟩
    exact (hk b (by rw [q3]; exact h2 _ hid)).2.1.trans p4
  | map n es => obtain ⟨b, p1, p2⟩ := h; exact ⟨b, hg.ρ _ _ p1, p2.kept hg hk (h2 _ hid) h3⟩
  | iter m since seen =>
    obtain ⟨b', o, p1, p2, p3, p4⟩ := h
    obtain ⟨k1, k2, _⟩ := hk b' (by rw [p3]; exact h2 _ hid)
    refine ⟨b', o, hg.ρ _ _ p1, k2.trans p2, k1.trans p3, p4.kept hg hk fun mid hmid => h2 _ ?_⟩
    rintro rfl
    subst hmid
    cases o <;> simp only [IterR] at p4
    rename_i mp _ _ _
    cases mp with
    | none => exact p4.elim
    | some bm =>
      obtain ⟨q1, _, _, _, _, arr, n, q6, _⟩ := p4
      rw [hb] at q1; simp at q1; subst q1
      exact hm _ _ q6
  | dead => trivial

/-- A state over a later ghost and world, nothing of its own touched. -/
theorem Rel.later {P : Program} {gl : Glob} {N : Nat} {g g' : Gh} {s : St} {a : Act} {w w' : World} {K : Owner → Prop} (h : Rel P gl N g s a w) (hg : GhLe g g')
    (hk : Kept g w g' w' K) (hK : ∀ o, o ≠ .none → K o) (hgam : ∀ b off v, g'.γ b off = some v → w'.cell? ⟨b, off, none⟩ = some v)
    (hown : ∀ b, g'.Ω b ≠ .none → b < w'.heap.size) (hrho : ∀ id b, g'.ρ id = some b → id < s.heap.length) : Rel P gl N g' s a w' :=
  ⟨h.sorted, h.size, h.defers, fun t e he => (h.env t e he).kept hg hk (hK _ (by simp)) (hK _ (by simp)) (fun _ => hK _ (by simp)),
   fun id o ho => (h.heap id o ho).kept hg hk (fun _ => hK _ (by simp)) (fun _ => hK _ (by simp)), hgam, hown, fun n x hx => (h.glob n x hx).mono hg.γ, hrho⟩
end AM
/-! Laws of the abstract environment, and what a write of a temporary does to the relation. -/
namespace AM
open Go

namespace Env
def Sorted (e : Env) : Prop := e.Pairwise fun p q => p.1 < q.1
theorem get_ins (e : Env) (t : Nat) (x : Ent) (u : Nat) : (e.ins t x).get u = if u = t then some x else e.get u := by
  induction e with
  | nil => simp [ins, get]
  | cons p r ih =>
    obtain ⟨k, y⟩ := p
    simp only [ins]
    split
    · simp [get]
    · split
      · rename_i h1 h2; subst h2; by_cases h : u = t <;> simp [get, h]
      · rename_i h1 h2
        simp only [get, ih]
        by_cases h : u = k
        · simp [h, show ¬ k = t from fun e => h2 e.symm]
        · simp [h]
theorem get_del (e : Env) (t u : Nat) : (e.del t).get u = if u = t then none else e.get u := by
  induction e with
  | nil => simp [del, get]
  | cons p r ih =>
    obtain ⟨k, y⟩ := p
    simp only [del]
    split
    · rename_i h; subst h; rw [ih]; by_cases h : u = t <;> simp [get, h]
    · rename_i h
      simp only [get, ih]
      by_cases h1 : u = k
      · have : u ≠ t := fun e => h (e ▸ h1)
        simp [h1, show ¬ k = t from fun e => h e.symm]
      · simp [h1]
theorem get_none_of_lt {e : Env} {k : Nat} (h : ∀ p ∈ e, k < p.1) : e.get k = none := by
  induction e with
  | nil => rfl
  | cons p r ih =>
    obtain ⟨j, y⟩ := p
    have h1 := h (j, y) (by simp)
    simp only at h1
    simp only [get, show ¬ k = j from by omega, if_false]
    exact ih fun p hp => h p (by simp [hp])
theorem mem_ins {e : Env} {t : Nat} {x : Ent} {p : Nat × Ent} (h : p ∈ e.ins t x) : p = (t, x) ∨ p ∈ e := by
  induction e with
  | nil => simp [ins] at h; exact .inl h
  | cons q r ih =>
    obtain ⟨k, y⟩ := q
    simp only [ins] at h
    split at h
    · simp at h ⊢; rcases h with h | h | h <;> simp [h]
    · split at h
      · simp at h ⊢; rcases h with h | h <;> simp [h]
      · simp at h ⊢; rcases h with h | h
        · simp [h]
        · rcases ih h with h | h <;> simp [h]
theorem Sorted.ins {e : Env} (h : e.Sorted) (t : Nat) (x : Ent) : (e.ins t x).Sorted := by
  induction e with
  | nil => simp [Env.ins, Sorted]
  | cons p r ih =>
    obtain ⟨k, y⟩ := p
    have h' := List.pairwise_cons.1 h
    simp only [Env.ins]
    split
    · rename_i hlt
      refine List.pairwise_cons.2 ⟨fun q hq => ?_, h⟩
      rcases List.mem_cons.1 hq with rfl | hq
      · exact hlt
      · exact Nat.lt_trans hlt (h'.1 q hq)
    · split
      · rename_i h1 h2; subst h2; exact List.pairwise_cons.2 ⟨h'.1, h'.2⟩
      · rename_i h1 h2
        refine List.pairwise_cons.2 ⟨fun q hq => ?_, ih h'.2⟩
        rcases mem_ins hq with rfl | hq
        · simp only; omega
        · exact h'.1 q hq
theorem mem_del {e : Env} {t : Nat} {p : Nat × Ent} (h : p ∈ e.del t) : p ∈ e := by
  induction e with
  | nil => simp [del] at h
  | cons q r ih =>
    obtain ⟨k, y⟩ := q
    simp only [del] at h
    split at h
    · exact List.mem_cons_of_mem _ (ih h)
    · rcases List.mem_cons.1 h with h | h
      · simp [h]
      · exact List.mem_cons_of_mem _ (ih h)
theorem Sorted.del {e : Env} (h : e.Sorted) (t : Nat) : (e.del t).Sorted := by
  induction e with
  | nil => simp [Env.del, Sorted]
  | cons p r ih =>
    obtain ⟨k, y⟩ := p
    have h' := List.pairwise_cons.1 h
    simp only [Env.del]
    split
    · exact ih h'.2
    · exact List.pairwise_cons.2 ⟨fun q hq => h'.1 q (mem_del hq), ih h'.2⟩
theorem mem_noAddr {e : Env} {t : Nat} {p : Nat × Ent} (h : p ∈ e.noAddr t) : p ∈ e ∧ ∀ off, p.2 ≠ .a t off := by
  induction e with
  | nil => simp [noAddr] at h
  | cons q r ih =>
    obtain ⟨k, y⟩ := q
    cases y with
    | a u off =>
      simp only [noAddr] at h
      split at h
      · exact ⟨List.mem_cons_of_mem _ (ih h).1, (ih h).2⟩
      · rename_i hne
        rcases List.mem_cons.1 h with rfl | h
        · exact ⟨by simp, fun off' h => hne (by simp at h; exact h.1)⟩
        · exact ⟨List.mem_cons_of_mem _ (ih h).1, (ih h).2⟩
    | v x =>
      simp only [noAddr] at h
      rcases List.mem_cons.1 h with rfl | h
      · exact ⟨by simp, fun _ h => by simp at h⟩
      · exact ⟨List.mem_cons_of_mem _ (ih h).1, (ih h).2⟩
    | b cs =>
      simp only [noAddr] at h
      rcases List.mem_cons.1 h with rfl | h
      · exact ⟨by simp, fun _ h => by simp at h⟩
      · exact ⟨List.mem_cons_of_mem _ (ih h).1, (ih h).2⟩
theorem Sorted.noAddr {e : Env} (h : e.Sorted) (t : Nat) : (e.noAddr t).Sorted := by
  induction e with
  | nil => simp [Env.noAddr, Sorted]
  | cons p r ih =>
    obtain ⟨k, y⟩ := p
    have h' := List.pairwise_cons.1 h
    cases y with
    | a u off =>
      simp only [Env.noAddr]
      split
      · exact ih h'.2
      · exact List.pairwise_cons.2 ⟨fun q hq => h'.1 q (mem_noAddr hq).1, ih h'.2⟩
    | v x => exact List.pairwise_cons.2 ⟨fun q hq => h'.1 q (mem_noAddr hq).1, ih h'.2⟩
    | b cs => exact List.pairwise_cons.2 ⟨fun q hq => h'.1 q (mem_noAddr hq).1, ih h'.2⟩
theorem mem_of_get {e : Env} {t : Nat} {x : Ent} (h : e.get t = some x) : (t, x) ∈ e := by
  induction e with
  | nil => simp [get] at h
  | cons p r ih =>
    obtain ⟨k, y⟩ := p
    simp only [get] at h
    split at h
    · rename_i h1; subst h1; simp at h; simp [h]
    · exact List.mem_cons_of_mem _ (ih h)
theorem get_of_mem {e : Env} (hs : e.Sorted) {t : Nat} {x : Ent} (h : (t, x) ∈ e) : e.get t = some x := by
  induction e with
  | nil => simp at h
  | cons p r ih =>
    obtain ⟨k, y⟩ := p
    have h' := List.pairwise_cons.1 hs
    simp only [get]
    rcases List.mem_cons.1 h with h | h
    · simp at h; simp [h.1, h.2]
    · have := h'.1 _ h
      simp only at this
      simp only [show ¬ t = k from by omega, if_false]
      exact ih h'.2 h
theorem get_noAddr {e : Env} (hs : e.Sorted) {t u : Nat} {x : Ent} : (e.noAddr t).get u = some x → e.get u = some x ∧ ∀ off, x ≠ .a t off := fun h =>
  ⟨get_of_mem hs (mem_noAddr (mem_of_get h)).1, (mem_noAddr (mem_of_get h)).2⟩
theorem mem_noAddr_of {e : Env} {t : Nat} {p : Nat × Ent} (h : p ∈ e) (hne : ∀ off, p.2 ≠ .a t off) : p ∈ e.noAddr t := by
  induction e with
  | nil => simp at h
  | cons q r ih =>
    obtain ⟨k, y⟩ := q
    rcases List.mem_cons.1 h with h2 | h2
    · subst h2
      cases y with
      | a u off => simp only [noAddr, show ¬ u = t from fun e => hne off (by simp [e]), if_false]; simp
      | v x => simp [noAddr]
      | b cs => simp [noAddr]
    · cases y with
      | a u off => simp only [noAddr]; split
                   · exact ih h2
                   · exact List.mem_cons_of_mem _ (ih h2)
      | v x => exact List.mem_cons_of_mem _ (ih h2)
      | b cs => exact List.mem_cons_of_mem _ (ih h2)
theorem get_noAddr_of {e : Env} (hs : e.Sorted) {t u : Nat} {x : Ent} (h : e.get u = some x) (hne : ∀ off, x ≠ .a t off) : (e.noAddr t).get u = some x :=
  get_of_mem (hs.noAddr t) (mem_noAddr_of (mem_of_get h) hne)
theorem mem_close {e : Env} {ts : List Nat} {p : Nat × Ent} (h : p ∈ e.close ts) : p ∈ e ∧ ∀ u off, p.2 ≠ .a u off := by
  induction e with
  | nil => simp [close] at h
  | cons q r ih =>
    obtain ⟨k, y⟩ := q
    cases y with
    | a u off =>
      simp only [close] at h
      exact ⟨List.mem_cons_of_mem _ (ih h).1, (ih h).2⟩
    | v x =>
      simp only [close] at h
      split at h
      · exact ⟨List.mem_cons_of_mem _ (ih h).1, (ih h).2⟩
      · rcases List.mem_cons.1 h with rfl | h
        · exact ⟨by simp, fun _ _ h => by simp at h⟩
        · exact ⟨List.mem_cons_of_mem _ (ih h).1, (ih h).2⟩
    | b cs =>
      simp only [close] at h
      split at h
      · exact ⟨List.mem_cons_of_mem _ (ih h).1, (ih h).2⟩
      · rcases List.mem_cons.1 h with rfl | h
        · exact ⟨by simp, fun _ _ h => by simp at h⟩
        · exact ⟨List.mem_cons_of_mem _ (ih h).1, (ih h).2⟩
theorem Sorted.close {e : Env} (h : e.Sorted) (ts : List Nat) : (e.close ts).Sorted := by
  induction e with
  | nil => simp [Env.close, Sorted]
  | cons p r ih =>
    obtain ⟨k, y⟩ := p
    have h' := List.pairwise_cons.1 h
    cases y with
    | a u off => exact ih h'.2
    | v x => simp only [Env.close]; split
             · exact ih h'.2
             · exact List.pairwise_cons.2 ⟨fun q hq => h'.1 q (mem_close hq).1, ih h'.2⟩
    | b cs => simp only [Env.close]; split
              · exact ih h'.2
              · exact List.pairwise_cons.2 ⟨fun q hq => h'.1 q (mem_close hq).1, ih h'.2⟩
theorem get_close {e : Env} (hs : e.Sorted) {ts : List Nat} {u : Nat} {x : Ent} (h : (e.close ts).get u = some x) : e.get u = some x ∧ ∀ v off, x ≠ .a v off :=
  ⟨get_of_mem hs (mem_close (mem_of_get h)).1, (mem_close (mem_of_get h)).2⟩
end Env
end AM
/-! What writes of temporaries, boxes and ghosts do to the relation. -/
namespace AM
open Go

def NotOwn (x : AV) : Prop := ∀ e sz xs, x ≠ .list (some e) sz xs
theorem NotOwn.noOwn (x : AV) : NotOwn x.noOwn := fun e sz xs h => by cases x <;> simp [AV.noOwn] at h
theorem NotOwn.none (sz : Nat) (xs : List AV) : NotOwn (.list none sz xs) := fun _ _ _ h => by simp at h
theorem NotOwn.ownR {P : Program} {g : Gh} {w : World} {o : Owner} {x : AV} {v : Value} (h : NotOwn x) : OwnR P g w o x v := .of_ne h
theorem VR.noOwn {g : Gh} {x : AV} {v : Value} (h : VR g x v) : VR g x.noOwn v := by
  cases x <;> try exact h
  rename_i own sz xs
  cases own with
  | none => exact h
  | some e => cases h with
    | own _ _ _ _ h => exact .pure _ _ h
    | pure _ _ h => cases h

theorem tmps_put {a : Act} {d : Nat} (hd : d < a.tmps.size) (v : Value) (t : Nat) : (a.put (some d) v).tmps[t]? = if t = d then some v else a.tmps[t]? := by
  simp only [Act.put]
  by_cases h : t = d
  · subst h; simp [hd]
  · simp [h, Array.getElem?_setIfInBounds_ne (fun e => h e.symm)]

/-- No own list stands where 'x' would own one. -/
structure PosFree (s : St) (x : Owner) : Prop where
  var : ∀ t y, x = .var t → s.env.get t = some (.v y) → NotOwn y
  bc : ∀ t i cs c, x = .bc t i → s.env.get t = some (.b cs) → cs[i]? = some c → NotOwn c
  oc : ∀ (id i : Nat) cs c, x = .oc id i → (s.heap[id]? = some (.cells cs) ∨ ∃ e, s.heap[id]? = some (.buf e cs)) → cs[i]? = some c → NotOwn c
  om : ∀ (id i : Nat) n es, x = .oc id i → s.heap[id]? = some (.map n es) → ∀ e ∈ es, NotOwn e.2
  bx : ∀ t, x ≠ .bx t
  ob : ∀ id, x ≠ .ob id

theorem PosFree.none (s : St) : PosFree s .none := ⟨by simp, by simp, by simp, by simp, by simp, by simp⟩

section
variable {P : Program} {gl : Glob} {N : Nat} {g g' : Gh} {s s' : St} {a : Act} {w w' : World}

theorem OwnR.kept' {K : Owner → Prop} {o : Owner} {x : AV} {v : Value} (h : OwnR P g w o x v) (hg : GhLe g g') (hk : Kept g w g' w' K) (ho : K o ∨ NotOwn x) : OwnR P g' w' o x v := by
  rcases ho with ho | ho
  · exact h.kept hg hk ho
  · exact ho.ownR

theorem BlkR.kept' {K : Owner → Prop} {b : Nat} {o : Owner} {oc : Nat → Owner} {cs : List AV} (h : BlkR P g w b o oc cs)
    (hg : GhLe g g') (hk : Kept g w g' w' K) (ho : K o) (hoc : ∀ i c, cs[i]? = some c → K (oc i) ∨ NotOwn c) : BlkR P g' w' b o oc cs := by
  obtain ⟨arr, ty, h1, h2, h3, h4, h5⟩ := h
  obtain ⟨k1, k2, k3⟩ := hk b (by rw [h3]; exact ho)
  refine ⟨arr, ty, k2.trans h1, h2, k1.trans h3, fun off => (k3 off).trans (h4 off), fun i c hc => ?_⟩
  obtain ⟨v, h6, h7, h8, h9⟩ := h5 i c hc
  exact ⟨v, h6, h7, h8.mono hg, h9.kept' hg hk (hoc i c hc)⟩

/-- A state over a later ghost and world: the blocks of all owners but 'x' are as they were, and nothing owned stands at 'x'. -/
theorem Rel.step (h : Rel P gl N g s a w) (x : Owner) (hx : PosFree s x) (hg : GhLe g g') (hk : Kept g w g' w' fun o => o ≠ .none ∧ o ≠ x)
    (hgam : ∀ b off v, g'.γ b off = some v → w'.cell? ⟨b, off, none⟩ = some v)
    (hown : ∀ b, g'.Ω b ≠ .none → b < w'.heap.size) (hrho : ∀ id b, g'.ρ id = some b → id < s.heap.length) : Rel P gl N g' s a w' := by
  refine ⟨h.sorted, h.size, h.defers, fun t e he => ?_, fun id o ho => ?_, hgam, hown, fun n x hx => (h.glob n x hx).mono hg.γ, hrho⟩
  · have h1 := h.env t e he
    cases e with
    | v y =>
      obtain ⟨v, p1, p2, p3⟩ := h1
      refine ⟨v, p1, p2.mono hg, p3.kept' hg hk ?_⟩
      by_cases hxt : x = .var t
      · exact .inr (hx.var t y hxt he)
      · exact .inl ⟨by simp, fun e => hxt e.symm⟩
    | b cs =>
      obtain ⟨b, p1, p2⟩ := h1
      refine ⟨b, p1, p2.kept' hg hk ⟨by simp, fun e => hx.bx t e.symm⟩ fun i c hc => ?_⟩
      by_cases hxt : x = .bc t i
      · exact .inr (hx.bc t i cs c hxt he hc)
      · exact .inl ⟨by simp, fun e => hxt e.symm⟩
    | a u off => exact h1
  · have h1 := h.heap id o ho
    cases o with
    | cells cs =>
      obtain ⟨b, p1, p2⟩ := h1
      refine ⟨b, hg.ρ _ _ p1, p2.kept' hg hk ⟨by simp, fun e => hx.ob id e.symm⟩ fun i c hc => ?_⟩
      by_cases hxt : x = .oc id i
      · exact .inr (hx.oc id i cs c hxt (.inl ho) hc)
      · exact .inl ⟨by simp, fun e => hxt e.symm⟩
    | buf e cs =>
      obtain ⟨b, k, p1, p2, p3, ⟨arr, p4, p5⟩, p6⟩ := h1
      have q3 : g.Ω b = .ob id := p3.choose_spec.choose_spec.2.2.1
      refine ⟨b, k, hg.ρ _ _ p1, hg.ρ _ _ p2, p3.kept' hg hk ⟨by simp, fun e => hx.ob id e.symm⟩ fun i c hc => ?_, ⟨arr, ?_, p5⟩, p6⟩
      · by_cases hxt : x = .oc id i
        · exact .inr (hx.oc id i cs c hxt (.inr ⟨e, ho⟩) hc)
        · exact .inl ⟨by simp, fun e => hxt e.symm⟩
      · exact (hk b (by rw [q3]; exact ⟨by simp, fun e => hx.ob id e.symm⟩)).2.1.trans p4
    | map n es =>
      obtain ⟨b, p1, arr, p2, p3, ⟨es', r1, r2, r3⟩, p5⟩ := h1
      obtain ⟨k1, k2, _⟩ := hk b (by rw [p3]; exact ⟨by simp, fun e => hx.ob id e.symm⟩)
      refine ⟨b, hg.ρ _ _ p1, arr, k2.trans p2, k1.trans p3, ⟨es', r1, r2, fun i e m he hm => ?_⟩, p5⟩
      obtain ⟨q1, q2, q3, q4⟩ := r3 i e m he hm
      refine ⟨q1.mono hg, q2, q3.mono hg, q4.kept' hg hk ?_⟩
      by_cases hxt : x = .oc id m.born
      · exact .inr (hx.om id m.born n es hxt ho e (r1.mem_iff.1 (List.mem_of_getElem? he)))
      · exact .inl ⟨by simp, fun e => hxt e.symm⟩
    | iter m since seen =>
      obtain ⟨b, o, p1, p2, p3, p4⟩ := h1
      obtain ⟨k1, k2, _⟩ := hk b (by rw [p3]; exact ⟨by simp, fun e => hx.ob id e.symm⟩)
      exact ⟨b, o, hg.ρ _ _ p1, k2.trans p2, k1.trans p3, p4.kept hg hk fun mid _ => ⟨by simp, fun e => hx.ob mid e.symm⟩⟩
    | dead => trivial

theorem okPut_ne {env : Env} {d u : Nat} {cs : List AV} (h : okPut env d = true) (hu : env.get u = some (.b cs)) : u ≠ d := by
  rintro rfl; simp [okPut, hu] at h

theorem EntR.other {env env' : Env} {d : Nat} {v : Value} {t : Nat} {e : Ent} (hs : d < a.tmps.size) (ht : t ≠ d) (h : EntR P g env a w t e)
    (hb : ∀ u cs, env.get u = some (.b cs) → (∃ off, e = .a u off) → u ≠ d ∧ env'.get u = some (.b cs)) : EntR P g env' (a.put (some d) v) w t e := by
  cases e with
  | v x => obtain ⟨u, p1, p2, p3⟩ := h; exact ⟨u, by rw [tmps_put hs]; simp [ht, p1], p2, p3⟩
  | b cs => obtain ⟨b, p1, p2⟩ := h; exact ⟨b, by rw [tmps_put hs]; simp [ht, p1], p2⟩
  | a u off =>
    obtain ⟨⟨cs, hu⟩, b, p1, p2⟩ := h
    obtain ⟨h1, h2⟩ := hb u cs hu ⟨off, rfl⟩
    exact ⟨⟨cs, h2⟩, b, by rw [tmps_put hs]; simp [ht, p1], by rw [tmps_put hs]; simp [h1, p2]⟩

/-- A value into a temporary. -/
theorem Rel.put (h : Rel P gl N g s a w) {d : Nat} {x : AV} {v : Value} (hp : s.put d x = some s') (hd : d < N) (hv : VR g x v) (ho : OwnR P g w (.var d) x v) :
    Rel P gl N g s' (a.put (some d) v) w := by
  have hs : d < a.tmps.size := by rw [h.size]; exact hd
  unfold St.put at hp
  split at hp
  · rename_i hok
    simp at hp; subst hp
    refine ⟨Env.Sorted.ins h.sorted d _, by simp [Act.put, h.size], h.defers, fun t e he => ?_, h.heap, h.gam, h.own, h.glob, h.rho⟩
    rw [Env.get_ins] at he
    split at he
    · rename_i ht; subst ht; simp at he; subst he
      exact ⟨v, by rw [tmps_put hs]; simp, hv, ho⟩
    · rename_i ht
      exact (h.env t e he).other hs ht fun u cs hu _ => ⟨okPut_ne hok hu, by rw [Env.get_ins]; simp [okPut_ne hok hu, hu]⟩
  · cases hp

/-- An address within a box into a temporary. -/
theorem Rel.putA (h : Rel P gl N g s a w) {d u off b : Nat} {cs : List AV} (hok : okPut s.env d = true) (hd : d < N) (hu : s.env.get u = some (.b cs))
    (hb : a.tmps[u]? = some (ptrTo b 0)) : Rel P gl N g { s with env := s.env.ins d (.a u off) } (a.put (some d) (ptrTo b off)) w := by
  have hs : d < a.tmps.size := by rw [h.size]; exact hd
  refine ⟨Env.Sorted.ins h.sorted d _, by simp [Act.put, h.size], h.defers, fun t e he => ?_, h.heap, h.gam, h.own, h.glob, h.rho⟩
  simp only at he ⊢
  rw [Env.get_ins] at he
  have hud := okPut_ne hok hu
  split at he
  · rename_i ht; subst ht; simp at he; subst he
    exact ⟨⟨cs, by rw [Env.get_ins]; simp [hud, hu]⟩, b, by rw [tmps_put hs]; simp, by rw [tmps_put hs]; simp [hud, hb]⟩
  · rename_i ht
    exact (h.env t e he).other hs ht fun u cs hu _ => ⟨okPut_ne hok hu, by rw [Env.get_ins]; simp [okPut_ne hok hu, hu]⟩

theorem hasA_spec {env : Env} {d u off : Nat} (h : hasA env d = false) (hu : env.get u = some (.a d off)) : False := by
  unfold hasA at h
  rw [List.any_eq_false] at h
  have := h _ (Env.mem_of_get hu)
  simp at this
/-- A box into a temporary. -/
theorem Rel.putB (h : Rel P gl N g s a w) {d b : Nat} {cs : List AV} (hp : s.putB d cs = some s') (hd : d < N) (hb : BlkR P g w b (.bx d) (.bc d) cs) :
    Rel P gl N g s' (a.put (some d) (ptrTo b 0)) w := by
  have hs : d < a.tmps.size := by rw [h.size]; exact hd
  unfold St.putB at hp
  split at hp
  · cases hp
  rename_i hA
  simp only [Bool.or_eq_true, not_or, Bool.not_eq_true] at hA
  obtain ⟨hA, _⟩ := hA
  simp only [Option.some.injEq] at hp
  subst hp
  refine ⟨Env.Sorted.ins h.sorted d _, by simp [Act.put, h.size], h.defers, fun t e he => ?_, h.heap, h.gam, h.own, h.glob, h.rho⟩
  simp only at he ⊢
  rw [Env.get_ins] at he
  split at he
  · rename_i ht; subst ht; simp at he; subst he
    exact ⟨b, by rw [tmps_put hs]; simp, hb⟩
  · rename_i ht
    refine (h.env t e he).other hs ht fun u cs hu ⟨off, he'⟩ => ?_
    have hne : u ≠ d := fun e => hasA_spec hA (by rw [he, he', e])
    exact ⟨hne, by rw [Env.get_ins]; simp [hne, hu]⟩

/-- A temporary is forgotten, and written with whatever. -/
theorem Rel.forget (h : Rel P gl N g s a w) {d : Nat} {v : Value} (hok : okPut s.env d = true) (hd : d < N) :
    Rel P gl N g { s with env := s.env.del d } (a.put (some d) v) w := by
  have hs : d < a.tmps.size := by rw [h.size]; exact hd
  refine ⟨Env.Sorted.del h.sorted d, by simp [Act.put, h.size], h.defers, fun t e he => ?_, h.heap, h.gam, h.own, h.glob, h.rho⟩
  simp only at he ⊢
  rw [Env.get_del] at he
  split at he
  · cases he
  · rename_i ht
    exact (h.env t e he).other hs ht fun u cs hu _ => ⟨okPut_ne hok hu, by rw [Env.get_del]; simp [okPut_ne hok hu, hu]⟩

/-- Some temporaries are forgotten, and all addresses within boxes. -/
theorem Rel.close (h : Rel P gl N g s a w) (ts : List Nat) : Rel P gl N g { s with env := s.env.close ts } a w := by
  refine ⟨Env.Sorted.close h.sorted ts, h.size, h.defers, fun t e he => ?_, h.heap, h.gam, h.own, h.glob, h.rho⟩
  obtain ⟨h1, h2⟩ := Env.get_close h.sorted he
  have := h.env t e h1
  cases e with
  | v x => exact this
  | b cs => exact this
  | a u off => exact absurd rfl (h2 u off)

/-- A value's temporary loses what it owns. -/
theorem Rel.strip (h : Rel P gl N g s a w) {x e sz : Nat} {xs : List AV} (hx : s.env.get x = some (.v (.list (some e) sz xs))) :
    s.put x (.list none sz xs) = some { s with env := s.env.ins x (.v (.list none sz xs)) } ∧ Rel P gl N g { s with env := s.env.ins x (.v (.list none sz xs)) } a w := by
  refine ⟨by simp [St.put, okPut, hx], Env.Sorted.ins h.sorted x _, h.size, h.defers, fun t y he => ?_, h.heap, h.gam, h.own, h.glob, h.rho⟩
  simp only at he ⊢
  rw [Env.get_ins] at he
  split at he
  · rename_i ht; subst ht; simp at he; subst he
    obtain ⟨v, p1, p2, p3⟩ := h.env t _ hx
    exact ⟨v, p1, p2.noOwn, NotOwn.ownR (NotOwn.none _ _)⟩
  · rename_i ht
    have h1 := h.env t y he
    cases y with
    | v y => exact h1
    | b cs => exact h1
    | a u off =>
      obtain ⟨⟨cs, hu⟩, p⟩ := h1
      refine ⟨⟨cs, ?_⟩, p⟩
      rw [Env.get_ins]
      have : u ≠ x := by rintro rfl; rw [hx] at hu; simp at hu
      simp [this, hu]
end
end AM
/-! The checker of operations, and the simulation of those that only compute. -/
namespace AM
open Go

def const1 : Value → AV → Bool
  | .int k n, .int k' n' => decide (k = k') && n == n'
  | .bool b, .bool b' => b == b'
  | .string s, .str l => s.data.toList == l && decide (l.length ≤ 16384)
  | .pointer none, .nilp => true
  | .slice none 0 0, .list none _ [] => true
  | .map none, .nilm => true
  | .nilFunc, .nilf => true
  | .slice none 0 0, .nils _ => true
  | .nilIface, .nili => true
  | _, _ => false
def const : Value → AV → Bool
  | .agg vs, .agg xs => vs.size == xs.length && (vs.toList.zip xs).all fun (v, x) => const1 v x
  | v, x => const1 v x
def chkOpd : Operand → Opd → Bool
  | .tmp t, .t n => t == n
  | .const v, .c x => const v x
  | .func f, .f n => f == n
  | .global n, .g m => n == m
  | _, _ => false
def dstIs (N : Nat) (o : Oper) (d : Nat) : Bool := o.dst == some d && decide (d < N)
def chkOpds (xs : List Operand) (ys : List Opd) : Bool := xs.length == ys.length && (xs.zip ys).all fun (x, y) => chkOpd x y
def okElem (P : Program) (e sz : Nat) : Bool :=
  match P.info? e with
  | some i => i.size == sz && decide (0 < sz) && (match i.zero with | some z => z.cells.size == sz | none => false) && decide (i.bytes ≤ 128)
  | none => false

theorem zip_all {α β : Type} {p : α × β → Bool} : ∀ {xs : List α} {ys : List β}, xs.length = ys.length → (xs.zip ys).all p = true → ∀ (i : Nat) x y, xs[i]? = some x → ys[i]? = some y → p (x, y) = true
  | [], _, _, _, i, x, y, hx, _ => by simp at hx
  | x :: xs, [], h, _, _, _, _, _, _ => by simp at h
  | x :: xs, y :: ys, h, ha, i, a, b, hx, hy => by
    simp only [List.zip_cons_cons, List.all_cons, Bool.and_eq_true] at ha
    cases i with
    | zero => simp at hx hy; subst hx hy; exact ha.1
    | succ i => exact zip_all (by simpa using h) ha.2 i a b (by simpa using hx) (by simpa using hy)

section
variable {γ : Gam}
theorem const1_sound {v : Value} {x : AV} (h : const1 v x = true) : PR γ x v ∧ v.oneCell' = true := by
  unfold const1 at h
  split at h
  · simp at h; obtain ⟨rfl, rfl⟩ := h; exact ⟨.int _ _, rfl⟩
  · simp at h; subst h; exact ⟨.bool _, rfl⟩
  · rename_i s l
    simp only [Bool.and_eq_true, beq_iff_eq, decide_eq_true_eq] at h
    obtain ⟨h1, h2⟩ := h
    refine ⟨?_, rfl⟩
    have : Value.string s = .string ⟨l.toArray⟩ := by rw [← h1]
    rw [this]
    exact .str l (by unfold M; omega)
  · exact ⟨.nilp, rfl⟩
  · exact ⟨.list0 _ _ _, rfl⟩
  · exact ⟨.nilm, rfl⟩
  · exact ⟨.nilf, rfl⟩
  · exact ⟨.nils _, rfl⟩
  · exact ⟨.nili, rfl⟩
  · cases h
theorem PRs_of {ws : List Value} : ∀ {cs : List AV}, ws.length = cs.length → (∀ (i : Nat) w c, ws[i]? = some w → cs[i]? = some c → PR γ c w ∧ w.oneCell' = true) → PRs γ cs ws := by
  induction ws with
  | nil => intro cs h _; cases cs with | nil => exact .nil | cons => simp at h
  | cons w ws ih =>
    intro cs h hh
    cases cs with
    | nil => simp at h
    | cons c cs =>
      have h0 := hh 0 w c (by simp) (by simp)
      exact .cons _ _ _ _ h0.2 h0.1 (ih (by simpa using h) fun i w c hw hc => hh (i + 1) w c (by simpa using hw) (by simpa using hc))
theorem const_sound {v : Value} {x : AV} (h : const v x = true) : PR γ x v := by
  unfold const at h
  split at h
  · rename_i vs xs
    simp only [Bool.and_eq_true, beq_iff_eq] at h
    obtain ⟨h1, h2⟩ := h
    have : vs = vs.toList.toArray := by simp
    rw [this]
    exact .agg _ _ (PRs_of (by simpa using h1) fun i w c hw hc => const1_sound (zip_all (by simpa using h1) h2 i w c hw hc))
  · exact (const1_sound h).1
end

section
variable {P : Program} {gl : Glob} {N : Nat} {g : Gh} {s s' : St} {a : Act} {w : World} {o : Oper}

theorem VRs.nil' : VRs g [] [] := .nil
/-- An operand's value. -/
theorem evO_sound (h : Rel P gl N g s a w) {y : Operand} {x : Opd} {u : AV} (hc : chkOpd y x = true) (he : evO gl s.env x = some u) : VR g u (a.eval y) := by
  unfold chkOpd at hc
  split at hc
  · rename_i t n
    simp at hc; subst hc
    simp only [evO] at he
    split at he
    · rename_i x hx
      simp at he; subst he
      obtain ⟨v, h1, h2, _⟩ := h.env _ _ hx
      simp [Act.eval, h1, h2]
    · cases he
  · simp only [evO] at he
    simp at he; subst he
    exact .pure _ _ (const_sound hc)
  · simp at hc; subst hc
    simp only [evO] at he
    simp at he; subst he
    exact .fn _ _ _ .nil
  · simp at hc; subst hc
    simp only [evO] at he
    exact .pure _ _ (h.glob _ _ he)
  · cases hc

theorem evOs_sound (h : Rel P gl N g s a w) : ∀ {ys : List Operand} {xs : List Opd} {us : List AV}, chkOpds ys xs = true → evOs gl s.env xs = some us → VRs g us (ys.map a.eval) := by
  intro ys
  induction ys with
  | nil =>
    intro xs us hc he
    cases xs with
    | nil => simp [evOs] at he; subst he; exact .nil
    | cons => simp [chkOpds] at hc
  | cons y ys ih =>
    intro xs us hc he
    cases xs with
    | nil => simp [chkOpds] at hc
    | cons x xs =>
      simp only [chkOpds, List.length_cons, List.zip_cons_cons, List.all_cons, Bool.and_eq_true, beq_iff_eq] at hc
      simp only [evOs] at he
      split at he
      · rename_i v vs h1 h2
        simp at he; subst he
        exact .cons _ _ _ _ (evO_sound h hc.2.1 h1) (ih (by simp [chkOpds, hc.2.2]; omega) h2)
      · cases he

/-- What is shown of one operation. -/
def Sim1 (P : Program) (gl : Glob) (N : Nat) (o : Oper) (g : Gh) (a : Act) (w : World) (s' : St) : Prop :=
  ∃ v w' g', ((execOp a.eval o).run P w = .ok (.value v) w' ∨ ((execOp a.eval o).run P w = .ok .skip w' ∧ v = undef)) ∧ GLe g w g' w' ∧ Rel P gl N g' s' (a.put o.dst v) w'

theorem Sim1.value (h : Rel P gl N g s a w) {d : Nat} {x : AV} {v : Value} (hd : dstIs N o d = true) (hp : s.put d x = some s') (hr : (execOp a.eval o).run P w = .ok (.value v) w)
    (hv : VR g x v) (ho : NotOwn x) : Sim1 P gl N o g a w s' := by
  simp only [dstIs, Bool.and_eq_true, beq_iff_eq, decide_eq_true_eq] at hd
  refine ⟨v, w, g, .inl hr, GLe.refl _ _, ?_⟩
  rw [hd.1]
  exact h.put hp hd.2 hv ho.ownR

theorem bind_some {α β : Type} {x : Option α} {f : α → Option β} {b : β} (h : x.bind f = some b) : ∃ a, x = some a ∧ f a = some b := by
  cases x with
  | none => cases h
  | some a => exact ⟨a, rfl, h⟩

def chkCopy (N : Nat) (o : Oper) (d : Nat) (x : Opd) : Bool := dstIs N o d && (match o.op with | .move y | .assign y => chkOpd y x | _ => false)

theorem run_copy {d : Nat} {x : Opd} (hc : chkCopy N o d x = true) : dstIs N o d = true ∧ ∃ y, chkOpd y x = true ∧ (execOp a.eval o).run P w = .ok (.value (a.eval y)) w := by
  simp only [chkCopy, Bool.and_eq_true] at hc
  obtain ⟨hd, hc⟩ := hc
  refine ⟨hd, ?_⟩
  split at hc
  · rename_i y hy; exact ⟨y, hc, by simp [execOp, hy]⟩
  · rename_i y hy; exact ⟨y, hc, by simp [execOp, hy]⟩
  · cases hc

theorem sim_mv {d : Nat} {x : Opd} (h : Rel P gl N g s a w) (hc : chkCopy N o d x = true) (he : ev gl s (.mv d x) = some s') : Sim1 P gl N o g a w s' := by
  obtain ⟨hd, y, hy, hr⟩ := run_copy (P := P) (a := a) (w := w) hc
  obtain ⟨u, h1, h2⟩ := bind_some he
  exact .value h hd h2 hr (evO_sound h hy h1).noOwn (NotOwn.noOwn u)

/-- An owner's block goes to another owner. -/
theorem Rel.pass (h : Rel P gl N g s a w) (x y : Owner) (hx : PosFree s x) (hox : x ≠ .outer) {b : Nat} (hb : g.Ω b = x) (hxn : x ≠ .none) :
    GLe g w { g with Ω := fun k => if k = b then y else g.Ω k } w ∧ Rel P gl N { g with Ω := fun k => if k = b then y else g.Ω k } s a w := by
  have hle : GhLe g { g with Ω := fun k => if k = b then y else g.Ω k } := ⟨fun _ _ _ h => h, fun _ _ h => h⟩
  refine ⟨⟨hle, fun k hk => ⟨?_, rfl, fun _ => rfl⟩, Nat.le_refl _, rfl, rfl⟩, ?_⟩
  · have : k ≠ b := by rintro rfl; rw [hb] at hk; exact hox hk
    simp [this, hk]
  · refine h.step x hx hle (fun k hk => ⟨?_, rfl, fun _ => rfl⟩) h.gam (fun k hk => ?_) h.rho
    · have : k ≠ b := by rintro rfl; exact hk.2 hb
      simp [this]
    · by_cases hkb : k = b
      · subst hkb; exact h.own _ (by rw [hb]; exact hxn)
      · simp [hkb] at hk; exact h.own _ hk

theorem OwnR.pass {o1 o2 : Owner} {x : AV} {v : Value} (h : OwnR P g w o1 x v) (b : Nat) (hb : v.ownBlock = some b) :
    OwnR P { g with Ω := fun k => if k = b then o2 else g.Ω k } w o2 x v := by
  intro e sz xs hx
  obtain ⟨i, z, vs, h1, h2, h3, h4, h5, h6, h6', h7, h8⟩ := h e sz xs hx
  refine ⟨i, z, vs, h1, h2, h3, h4, h5, h6, h6', h7, fun k hk => ?_⟩
  rw [hb] at hk; simp at hk; subst hk
  exact ⟨by simp, (h8 b hb).2⟩
theorem OwnR.free {o1 o2 : Owner} {x : AV} {v : Value} (h : OwnR P g w o1 x v) (hb : v.ownBlock = none) : OwnR P g w o2 x v := by
  intro e sz xs hx
  obtain ⟨i, z, vs, h1, h2, h3, h4, h5, h6, h6', h7, h8⟩ := h e sz xs hx
  exact ⟨i, z, vs, h1, h2, h3, h4, h5, h6, h6', h7, fun k hk => by rw [hb] at hk; cases hk⟩

/-- What a position owns goes to a temporary. -/
theorem Rel.passTo (h : Rel P gl N g s a w) {x : Owner} (hx : PosFree s x) (hox : x ≠ .outer) (hxn : x ≠ .none) {d : Nat} {y : AV} {v : Value} (hd : d < N) (hp : s.put d y = some s')
    (hv : VR g y v) (ho : OwnR P g w x y v) (hy : ∃ e sz xs, y = .list (some e) sz xs) : ∃ g', GLe g w g' w ∧ Rel P gl N g' s' (a.put (some d) v) w := by
  cases hb : v.ownBlock with
  | none => exact ⟨g, GLe.refl _ _, h.put hp hd hv (ho.free hb)⟩
  | some b =>
    obtain ⟨e, sz, xs, hy⟩ := hy
    obtain ⟨i, z, vs, h1, h2, h3, h4, h5, h6, h6', h7, h8⟩ := ho e sz xs hy
    obtain ⟨hle, h'⟩ := h.pass x (.var d) hx hox (h8 b hb).1 hxn
    exact ⟨_, hle, h'.put hp hd (hv.mono hle.toGhLe) (ho.pass b hb)⟩

theorem sim_tk {d x : Nat} (h : Rel P gl N g s a w) (hc : chkCopy N o d (.t x) = true) (he : ev gl s (.tk d x) = some s') : Sim1 P gl N o g a w s' := by
  obtain ⟨hd, y, hy, hr⟩ := run_copy (P := P) (a := a) (w := w) hc
  have hy' : y = .tmp x := by
    unfold chkOpd at hy; split at hy <;> simp_all
  subst hy'
  simp only [ev] at he
  have hd' := hd
  simp only [dstIs, Bool.and_eq_true, beq_iff_eq, decide_eq_true_eq] at hd'
  split at he
  · rename_i e sz xs hx
    split at he
    · cases he
    · rename_i hne
      obtain ⟨s1, h1, h2⟩ := bind_some he
      obtain ⟨h3, h4⟩ := h.strip hx
      rw [h3] at h1; simp at h1; subst h1
      obtain ⟨v, p1, p2, p3⟩ := h.env _ _ hx
      have hfree : PosFree { s with env := s.env.ins x (.v (.list none sz xs)) } (.var x) :=
        ⟨fun t z ht hz => by simp at ht; subst ht; simp only [Env.get_ins] at hz; simp at hz; subst hz; exact NotOwn.none _ _, by simp, by simp, by simp, by simp, by simp⟩
      obtain ⟨g', q1, q2⟩ := h4.passTo hfree (by simp) (by simp) hd'.2 h2 p2 p3 ⟨e, sz, xs, rfl⟩
      refine ⟨v, w, g', .inl ?_, q1, ?_⟩
      · rw [hr]; simp [Act.eval, p1]
      · rw [hd'.1]; exact q2
  · rename_i v hx hv
    have h1 : evO gl s.env (.t x) = some v := by simp [evO, hv]
    exact .value h hd he hr (evO_sound h hy h1).noOwn (NotOwn.noOwn v)
  · cases he

def chkNil (P : Program) (N : Nat) (o : Oper) (d e sz : Nat) : Bool := dstIs N o d && okElem P e sz && (match o.op with | .move (.const (.slice none 0 0)) | .assign (.const (.slice none 0 0)) => true | _ => false)
theorem okElem_own {e sz : Nat} (h : okElem P e sz = true) (g : Gh) (w : World) (o : Owner) : OwnR P g w o (.list (some e) sz []) (.slice none 0 0) := by
  intro e' sz' xs hx
  simp at hx; obtain ⟨rfl, rfl, rfl⟩ := hx
  unfold okElem at h
  split at h
  · rename_i i hi
    simp only [Bool.and_eq_true, beq_iff_eq, decide_eq_true_eq] at h
    obtain ⟨⟨⟨h1, h2⟩, h3⟩, h4⟩ := h
    split at h3
    · rename_i z hz
      simp at h3
      exact ⟨i, z, [], hi, h1, h2, hz, h3, h4, by simp, World.ownsRow_nil _ _ _ _, fun b hb => by simp [Value.ownBlock] at hb⟩
    · cases h3
  · cases h
theorem sim_nil {d e sz : Nat} (h : Rel P gl N g s a w) (hc : chkNil P N o d e sz = true) (he : ev gl s (.nil_ d e sz) = some s') : Sim1 P gl N o g a w s' := by
  simp only [chkNil, Bool.and_eq_true] at hc
  obtain ⟨⟨hd, hk⟩, hop⟩ := hc
  have hr : (execOp a.eval o).run P w = .ok (.value (.slice none 0 0)) w := by
    split at hop
    · rename_i hy; simp [execOp, hy, Act.eval]
    · rename_i hy; simp [execOp, hy, Act.eval]
    · cases hop
  simp only [dstIs, Bool.and_eq_true, beq_iff_eq, decide_eq_true_eq] at hd
  refine ⟨_, w, g, .inl hr, GLe.refl _ _, ?_⟩
  rw [hd.1]
  exact h.put he hd.2 (.own _ _ _ _ (.list0 _ _ _)) (okElem_own hk _ _ _)

def chkPick (N : Nat) (o : Oper) (d : Nat) (c x y : Opd) : Bool := dstIs N o d && (match o.op with | .pick c' x' y' => chkOpd c' c && chkOpd x' x && chkOpd y' y | _ => false)
theorem VR.bool_inv {b : Bool} {v : Value} (h : VR g (.bool b) v) : v = .bool b := by
  cases h with | pure _ _ h => cases h; rfl
theorem VR.int_inv {k : IntKind} {n : Int} {v : Value} (h : VR g (.int k n) v) : v = .int k n := by
  cases h with | pure _ _ h => cases h; rfl
theorem VR.str_inv {l : List UInt8} {v : Value} (h : VR g (.str l) v) : v = .string ⟨l.toArray⟩ ∧ l.length ≤ M := by
  cases h with | pure _ _ h => cases h; exact ⟨rfl, ‹_›⟩
theorem sim_pick {d : Nat} {c x y : Opd} (h : Rel P gl N g s a w) (hc : chkPick N o d c x y = true) (he : ev gl s (.pick d c x y) = some s') : Sim1 P gl N o g a w s' := by
  simp only [chkPick, Bool.and_eq_true] at hc
  obtain ⟨hd, hop⟩ := hc
  split at hop
  · rename_i c' x' y' ho
    simp only [Bool.and_eq_true] at hop
    obtain ⟨⟨h1, h2⟩, h3⟩ := hop
    simp only [ev] at he
    split at he
    · rename_i t ht
      have hb := (evO_sound h h1 ht).bool_inv
      split at he
      · rename_i htt; subst htt
        obtain ⟨u, p1, p2⟩ := bind_some he
        exact .value h hd p2 (by simp [execOp, ho, hb, asBool]) (evO_sound h h2 p1).noOwn (NotOwn.noOwn u)
      · rename_i htt; simp at htt; subst htt
        obtain ⟨u, p1, p2⟩ := bind_some he
        exact .value h hd p2 (by simp [execOp, ho, hb, asBool]) (evO_sound h h3 p1).noOwn (NotOwn.noOwn u)
    · cases he
  · cases hop

def chkNot (N : Nat) (o : Oper) (d : Nat) (x : Opd) : Bool := dstIs N o d && (match o.op with | .unOp .not _ x' => chkOpd x' x | _ => false)
theorem sim_not {d : Nat} {x : Opd} (h : Rel P gl N g s a w) (hc : chkNot N o d x = true) (he : ev gl s (.not_ d x) = some s') : Sim1 P gl N o g a w s' := by
  simp only [chkNot, Bool.and_eq_true] at hc
  obtain ⟨hd, hop⟩ := hc
  split at hop
  · rename_i x' ho
    simp only [ev] at he
    split at he
    · rename_i b hb
      have h1 := (evO_sound h hop hb).bool_inv
      exact .value h hd he (by simp [execOp, ho, h1, Op.unary]) (.pure _ _ (.bool _)) (fun _ _ _ h => by simp at h)
    · cases he
  · cases hop
def chkNeg (N : Nat) (o : Oper) (d : Nat) (x : Opd) : Bool := dstIs N o d && (match o.op with | .unOp .neg _ x' => chkOpd x' x | _ => false)
theorem sim_neg {d : Nat} {x : Opd} (h : Rel P gl N g s a w) (hc : chkNeg N o d x = true) (he : ev gl s (.neg d x) = some s') : Sim1 P gl N o g a w s' := by
  simp only [chkNeg, Bool.and_eq_true] at hc
  obtain ⟨hd, hop⟩ := hc
  split at hop
  · rename_i x' ho
    simp only [ev] at he
    split at he
    · rename_i k n hb
      have h1 := (evO_sound h hop hb).int_inv
      exact .value h hd he (by simp [execOp, ho, h1, Op.unary, Op.intArith]) (.pure _ _ (.int _ _)) (fun _ _ _ h => by simp at h)
    · cases he
  · cases hop
def chkConv (P : Program) (N : Nat) (o : Oper) (d : Nat) (k : IntKind) (x : Opd) : Bool := dstIs N o d &&
  (match o.op with | .convert sT dT x' => chkOpd x' x && (P.underlying sT).isSome && (match P.underlying dT with | some (.int k') => decide (k' = k) | _ => false) | _ => false)
theorem sim_conv {d : Nat} {k : IntKind} {x : Opd} (h : Rel P gl N g s a w) (hc : chkConv P N o d k x = true) (he : ev gl s (.conv d k x) = some s') : Sim1 P gl N o g a w s' := by
  simp only [chkConv, Bool.and_eq_true] at hc
  obtain ⟨hd, hop⟩ := hc
  split at hop
  · rename_i sT dT x' ho
    simp only [Bool.and_eq_true] at hop
    obtain ⟨⟨hx, hs⟩, hdt⟩ := hop
    split at hdt
    · rename_i k' hk
      simp at hdt; subst hdt
      simp only [ev] at he
      split at he
      · rename_i k n hb
        have h1 := (evO_sound h hx hb).int_inv
        obtain ⟨ds, hds⟩ := Option.isSome_iff_exists.1 hs
        exact .value h hd he (by simp [execOp, ho, h1, convert, run_underlying hds, run_underlying hk, Conv.intToInt]) (.pure _ _ (.int _ _)) (fun _ _ _ h => by simp at h)
      · cases he
    · cases hdt
  · cases hop
end
end AM
/-! The simulation of arithmetic, lengths, strings, addresses and loads. -/
namespace AM
open Go
section
variable {P : Program} {gl : Glob} {N : Nat} {g : Gh} {s s' : St} {a : Act} {w : World} {o : Oper}

theorem toList_mk (l : List UInt8) : (ByteArray.mk l.toArray).toList = l := by rw [ByteArray.toList_eq]

def kndT (P : Program) (t : TypeId) : Nat := match P.underlying t with | some (.int _) => 0 | some .string => 1 | some .bool => 2 | _ => 3
/-- A struct of scalars, field i at cell i. -/
def flatFields (P : Program) : Nat → List Nat → List Field → Bool
  | _, [], [] => true
  | i, k :: ks, f :: fs => f.name != "_" && f.offset == i && decide (kndT P f.type = k) && decide (k < 3) && flatFields P (i + 1) ks fs
  | _, _, _ => false
def flatStruct (P : Program) (t : TypeId) (ks : List Nat) : Bool :=
  match P.underlying t with
  | some (.struct fs) => !P.stoodInHeld t && !P.eqGuardType P.depth t && flatFields P 0 ks fs.toList
  | _ => false
def binMode (P : Program) (m : Nat) (t : TypeId) : Bool :=
  match m with
  | 0 => true
  | 2 => match P.underlying t with | some (.pointer _) => true | _ => false
  | 3 => match P.underlying t with | some .bool => true | _ => false
  | 4 => match P.underlying t with | some (.pointer e) => (P.info? e).isSome | _ => false
  | _ => false
def chkBin (P : Program) (N : Nat) (o : Oper) (d m : Nat) (op : BinOp) (x y : Opd) : Bool := dstIs N o d &&
  (match o.op with | .binOp op' t x' y' _ => decide (op' = op) && chkOpd x' x && chkOpd y' y && binMode P m t | _ => false)

theorem notOwn_bool (b : Bool) : NotOwn (.bool b) := fun _ _ _ h => by simp at h
theorem notOwn_int (k : IntKind) (n : Int) : NotOwn (.int k n) := fun _ _ _ h => by simp at h
theorem notOwn_str (l : List UInt8) : NotOwn (.str l) := fun _ _ _ h => by simp at h

theorem intBin_sound {op : BinOp} {k : IntKind} {x y : Int} {u : AV} (he : intBin op k x y = some u) (t : TypeId) (xo yo : Operand) :
    ∃ v, (do eqGuard op t xo yo (.int k x) (.int k y); binOp op t (.int k x) (.int k y) : Sem Value).run P w = .ok v w ∧ PR g.γ u v ∧ NotOwn u := by
  have hg : (eqGuard op t xo yo (.int k x) (.int k y)).run P w = .ok () w := by cases op <;> simp [eqGuard]
  unfold intBin at he
  cases op <;> simp at he
  case quo =>
    obtain ⟨h0, he⟩ := he
    subst he
    exact ⟨_, by simp [hg, binOp, Op.intDiv, h0], .int _ _, notOwn_int _ _⟩
  case rem =>
    obtain ⟨h0, he⟩ := he
    subst he
    exact ⟨_, by simp [hg, binOp, Op.intDiv, h0], .int _ _, notOwn_int _ _⟩
  all_goals
    subst he
    simp only [Sem.run_bind, hg, Result.andThen_ok, binOp, ne_eq, not_true_eq_false, if_false, Op.intArith, Op.intCmp, Sem.run_pure]
    first
      | exact ⟨_, rfl, .int _ _, notOwn_int _ _⟩
      | exact ⟨_, rfl, .bool _, notOwn_bool _⟩

theorem strBin_sound {op : BinOp} {x y : List UInt8} {u : AV} (he : strBin op x y = some u) (t : TypeId) (xo yo : Operand) :
    ∃ v, (do eqGuard op t xo yo (.string ⟨x.toArray⟩) (.string ⟨y.toArray⟩); binOp op t (.string ⟨x.toArray⟩) (.string ⟨y.toArray⟩) : Sem Value).run P w = .ok v w ∧ PR g.γ u v ∧ NotOwn u := by
  have hg : (eqGuard op t xo yo (.string ⟨x.toArray⟩) (.string ⟨y.toArray⟩)).run P w = .ok () w := by cases op <;> simp [eqGuard]
  unfold strBin at he
  cases op <;> simp at he
  case add =>
    obtain ⟨h0, he⟩ := he
    subst he
    refine ⟨.string ⟨(x ++ y).toArray⟩, ?_, .str _ (by simpa using h0), notOwn_str _⟩
    have h1 : (ByteArray.mk x.toArray).size + (ByteArray.mk y.toArray).size ≤ 9223372036854775807 := by
      have : (ByteArray.mk x.toArray).size = x.length := by simp [ByteArray.size]
      have : (ByteArray.mk y.toArray).size = y.length := by simp [ByteArray.size]
      unfold M at h0; omega
    have h2 : (ByteArray.mk x.toArray ++ ByteArray.mk y.toArray) = ByteArray.mk (x ++ y).toArray := by
      apply ByteArray.ext; simp
    simp only [Sem.run_bind, hg, Result.andThen_ok, binOp, run_string_add_sum w _ _ h1, h2]
  all_goals
    subst he
    simp only [Sem.run_bind, hg, Result.andThen_ok, binOp, Op.stringOp, Sem.run_pure, toList_mk, Bool.not_or]
    first
      | exact ⟨_, rfl, .bool _, notOwn_bool _⟩
      | exact ⟨_, rfl, by simpa using PR.bool _, notOwn_bool _⟩

theorem VR.agg_inv {cs : List AV} {v : Value} (h : VR g (.agg cs) v) : ∃ ws, v = .agg ws.toArray ∧ VRs g cs ws ∧ ∀ x ∈ ws, x.oneCell' = true := by
  cases h with
  | pure _ _ h =>
    cases h with
    | agg _ ws h =>
      refine ⟨ws, rfl, ?_⟩
      induction ws generalizing cs with
      | nil => cases h; exact ⟨.nil, by simp⟩
      | cons w ws ih =>
        cases h with
        | cons c cs _ _ h1 h2 h3 =>
          obtain ⟨p1, p2⟩ := ih h3
          exact ⟨.cons _ _ _ _ (.pure _ _ h2) p1, by simpa [h1] using p2⟩
  | agg _ ws h h1 => exact ⟨ws, rfl, h, h1⟩

theorem VRs.get {cs : List AV} {ws : List Value} (h : VRs g cs ws) : ws.length = cs.length ∧ ∀ (i : Nat) c, cs[i]? = some c → ∃ v, ws[i]? = some v ∧ VR g c v := by
  induction ws generalizing cs with
  | nil => cases h; simp
  | cons w ws ih =>
    cases h with
    | cons c cs _ _ h1 h2 =>
      obtain ⟨p1, p2⟩ := ih h2
      refine ⟨by simp [p1], fun i c' hc => ?_⟩
      cases i with
      | zero => simp at hc; subst hc; exact ⟨w, by simp, h1⟩
      | succ i => simpa using p2 i c' (by simpa using hc)

theorem VR.ptr_inv {id off : Nat} {v : Value} (h : VR g (.ptr id off) v) : ∃ b, g.ρ id = some b ∧ v = ptrTo b off := by
  cases h with
  | ptr _ _ b h => exact ⟨b, h, rfl⟩
  | pure _ _ h => cases h
theorem VR.nilp_inv {v : Value} (h : VR g .nilp v) : v = .pointer none := by
  cases h with | pure _ _ h => cases h; rfl

theorem run_equal_bool {t : TypeId} (hu : P.underlying t = some .bool) (x y : Bool) : (Op.equal t (.bool x) (.bool y)).run P w = .ok (x == y) w :=
  run_equalIn_bool' w 9999 t x y hu
theorem run_equalIn_nilptr (d : Nat) {t e : TypeId} (hu : P.underlying t = some (.pointer e)) (b : Option Addr) : (Op.equalIn (d + 1) t (.pointer none) (.pointer b)).run P w = .ok b.isNone w := by
  simp [Op.equalIn, run_underlying hu]
theorem run_equalIn_ptrnil (d : Nat) {t e : TypeId} (hu : P.underlying t = some (.pointer e)) (b : Addr) : (Op.equalIn (d + 1) t (.pointer (some b)) (.pointer none)).run P w = .ok false w := by
  simp [Op.equalIn, run_underlying hu]
theorem run_equal_nilptr {t e : TypeId} (hu : P.underlying t = some (.pointer e)) (b : Option Addr) : (Op.equal t (.pointer none) (.pointer b)).run P w = .ok b.isNone w :=
  run_equalIn_nilptr 9999 hu b
theorem run_equal_ptrnil {t e : TypeId} (hu : P.underlying t = some (.pointer e)) (b : Addr) : (Op.equal t (.pointer (some b)) (.pointer none)).run P w = .ok false w :=
  run_equalIn_ptrnil 9999 hu b

/-- An operation's two operands, compared. -/
theorem run_eql {t : TypeId} {x y : Value} {xo yo : Operand} {r : Bool} (hg : (eqGuard .eql t xo yo x y).run P w = .ok () w)
    (hb : binOp .eql t x y = Value.bool <$> Op.equal t x y) (he : (Op.equal t x y).run P w = .ok r w) :
    (do eqGuard .eql t xo yo x y; binOp .eql t x y : Sem Value).run P w = .ok (.bool r) w := by
  rw [Sem.run_bind, hg, Result.andThen_ok, hb, Sem.run_map, he]; rfl
theorem run_neq {t : TypeId} {x y : Value} {xo yo : Operand} {r : Bool} (hg : (eqGuard .neq t xo yo x y).run P w = .ok () w)
    (hb : binOp .neq t x y = (fun a => Value.bool !a) <$> Op.equal t x y) (he : (Op.equal t x y).run P w = .ok r w) :
    (do eqGuard .neq t xo yo x y; binOp .neq t x y : Sem Value).run P w = .ok (.bool (!r)) w := by
  rw [Sem.run_bind, hg, Result.andThen_ok, hb, Sem.run_map, he]; rfl

theorem binB_sound {op : BinOp} {b1 b2 : Bool} {u : AV} {t : TypeId} (hu : P.underlying t = some .bool) (xo yo : Operand)
    (he : (match op with | .eql => some (AV.bool (b1 == b2)) | .neq => some (AV.bool (!(b1 == b2))) | _ => none) = some u) :
    ∃ v, (do eqGuard op t xo yo (.bool b1) (.bool b2); binOp op t (.bool b1) (.bool b2) : Sem Value).run P w = .ok v w ∧ PR g.γ u v ∧ NotOwn u := by
  split at he
  · simp at he; subst he
    exact ⟨_, run_eql (by simp [eqGuard]) (by simp [binOp]) (run_equal_bool hu b1 b2), .bool _, notOwn_bool _⟩
  · simp at he; subst he
    exact ⟨_, run_neq (by simp [eqGuard]) (by simp [binOp]) (run_equal_bool hu b1 b2), by simpa using PR.bool _, notOwn_bool _⟩
  · cases he
theorem binP_sound {op : BinOp} {p1 p2 : Option Addr} {r : Bool} {u : AV} {t e : TypeId} (hu : P.underlying t = some (.pointer e)) (xo yo : Operand)
    (hp : (p1 = none ∧ r = p2.isNone) ∨ (p1.isSome ∧ p2 = none ∧ r = false))
    (he : (match op with | .eql => some (AV.bool r) | .neq => some (AV.bool (!r)) | _ => none) = some u) :
    ∃ v, (do eqGuard op t xo yo (.pointer p1) (.pointer p2); binOp op t (.pointer p1) (.pointer p2) : Sem Value).run P w = .ok v w ∧ PR g.γ u v ∧ NotOwn u := by
  have hr : (Op.equal t (.pointer p1) (.pointer p2)).run P w = .ok r w := by
    rcases hp with ⟨rfl, rfl⟩ | ⟨h1, rfl, rfl⟩
    · exact run_equal_nilptr hu p2
    · obtain ⟨b, rfl⟩ := Option.isSome_iff_exists.1 h1
      exact run_equal_ptrnil hu b
  split at he
  · simp at he; subst he
    exact ⟨_, run_eql (by simp [eqGuard]) (by simp [binOp]) hr, .bool _, notOwn_bool _⟩
  · simp at he; subst he
    exact ⟨_, run_neq (by simp [eqGuard]) (by simp [binOp]) hr, by simpa using PR.bool _, notOwn_bool _⟩
  · cases he

theorem run_equalIn_same (d : Nat) {t e : TypeId} (hu : P.underlying t = some (.pointer e)) (he : (P.info? e).isSome = true) (b : Addr) : (Op.equalIn (d + 1) t (.pointer (some b)) (.pointer (some b))).run P w = .ok true w := by
  obtain ⟨i, hi⟩ := Option.isSome_iff_exists.1 he
  have h1 : (sameAddr b b).run P w = .ok true w := by simp [sameAddr]
  by_cases h0 : i.size = 0
  · simp [Op.equalIn, run_underlying hu, Go.sizeOf, typeInfo, hi, h0]
  · simp [Op.equalIn, run_underlying hu, Go.sizeOf, typeInfo, hi, h0, h1]
theorem run_equal_same {t e : TypeId} (hu : P.underlying t = some (.pointer e)) (he : (P.info? e).isSome = true) (b : Addr) : (Op.equal t (.pointer (some b)) (.pointer (some b))).run P w = .ok true w :=
  run_equalIn_same 9999 hu he b
theorem binS_sound {op : BinOp} {p : Addr} {u : AV} {t e : TypeId} (hu : P.underlying t = some (.pointer e)) (hi : (P.info? e).isSome = true) (xo yo : Operand)
    (he : (match op with | .eql => some (AV.bool true) | .neq => some (AV.bool false) | _ => none) = some u) :
    ∃ v, (do eqGuard op t xo yo (.pointer (some p)) (.pointer (some p)); binOp op t (.pointer (some p)) (.pointer (some p)) : Sem Value).run P w = .ok v w ∧ PR g.γ u v ∧ NotOwn u := by
  split at he
  · simp at he; subst he
    exact ⟨_, run_eql (by simp [eqGuard]) (by simp [binOp]) (run_equal_same hu hi p), .bool _, notOwn_bool _⟩
  · simp at he; subst he
    exact ⟨_, run_neq (by simp [eqGuard]) (by simp [binOp]) (run_equal_same hu hi p), by simpa using PR.bool _, notOwn_bool _⟩
  · cases he

/-- A field of a struct of scalars. -/
theorem scalar_part {t : TypeId} (ht : kndT P t < 3) {cs : Array Value} {i : Nat} {c : Value} (hc : cs[i]? = some c) : (part t cs i).run P w = .ok c w := by
  unfold kndT at ht
  split at ht
  · rename_i k hu; simp [part, isAgg, run_underlying hu, hc]
  · rename_i hu; simp [part, isAgg, run_underlying hu, hc]
  · rename_i hu; simp [part, isAgg, run_underlying hu, hc]
  · omega
theorem eq1_sound {x y : AV} {r : Bool} {u v : Value} (h : eq1 x y = some r) (hx : VR g x u) (hy : VR g y v) {t : TypeId} (ht : knd x = kndT P t) (d : Nat) :
    (Op.equalIn (d + 1) t u v).run P w = .ok r w := by
  unfold eq1 at h
  unfold kndT at ht
  split at h
  · simp at h; subst h
    rw [hx.bool_inv, hy.bool_inv]
    simp only [knd] at ht
    split at ht <;> simp at ht
    rename_i hu
    exact run_equalIn_bool' w d t _ _ hu
  · split at h
    · rename_i k a k' b hk; subst hk
      simp at h; subst h
      rw [hx.int_inv, hy.int_inv]
      simp only [knd] at ht
      split at ht <;> simp at ht
      rename_i hu
      exact run_equalIn_int w d t _ _ _ _ hu
    · cases h
  · simp at h; subst h
    rw [hx.str_inv.1, hy.str_inv.1]
    simp only [knd] at ht
    split at ht <;> simp at ht
    rename_i hu
    rw [run_equalIn_string w d t _ _ hu, toList_mk, toList_mk]
  · cases h
theorem eqFields_sound (A B : Array Value) (d : Nat) : ∀ (fs : List Field) (ks : List Nat) (k : Nat) (xs ys : List AV) (us vs : List Value) (r : Bool), flatFields P k ks fs = true →
    eqsK ks xs ys = some r → VRs g xs us → VRs g ys vs → (∀ i, A[k + i]? = us[i]?) → (∀ i, B[k + i]? = vs[i]?) → (Op.eqFields (d + 1) A B fs).run P w = .ok r w := by
  intro fs
  induction fs with
  | nil =>
    intro ks k xs ys us vs r hf he _ _ _ _
    cases ks with
    | cons => simp [flatFields] at hf
    | nil =>
      cases xs <;> cases ys <;> simp [eqsK] at he
      subst he; simp [Op.eqFields]
  | cons f fs ih =>
    intro ks k xs ys us vs r hf he hx hy hA hB
    cases ks with
    | nil => simp [flatFields] at hf
    | cons kk ks =>
      simp only [flatFields, Bool.and_eq_true, bne_iff_ne, beq_iff_eq, decide_eq_true_eq] at hf
      obtain ⟨⟨⟨⟨h1, h2⟩, h3⟩, h4⟩, h5⟩ := hf
      cases xs with
      | nil => simp [eqsK] at he
      | cons x xs => cases ys with
        | nil => simp [eqsK] at he
        | cons y ys =>
          simp only [eqsK] at he
          split at he
          · rename_i hk
            split at he
            · rename_i r1 r2 e1 e2
              simp at he; subst he
              cases hx with
              | cons _ _ u us hu hus => cases hy with
                | cons _ _ v vs hv hvs =>
                  have hA0 := hA 0
                  have hB0 := hB 0
                  simp only [Nat.add_zero, List.getElem?_cons_zero] at hA0 hB0
                  have p1 : (part f.type A f.offset).run P w = .ok u w := by rw [h2]; exact scalar_part (by omega) hA0
                  have p2 : (part f.type B f.offset).run P w = .ok v w := by rw [h2]; exact scalar_part (by omega) hB0
                  have p3 := eq1_sound (P := P) (w := w) e1 hu hv (t := f.type) (by omega) d
                  have p4 := ih ks (k + 1) xs ys us vs r2 h5 e2 hus hvs (fun i => by have := hA (i + 1); simpa [Nat.add_assoc, Nat.add_comm 1 i] using this)
                    (fun i => by have := hB (i + 1); simpa [Nat.add_assoc, Nat.add_comm 1 i] using this)
                  simp only [Op.eqFields, h1, ne_eq, not_false_eq_true, if_true, Sem.run_bind, p1, Result.andThen_ok, p2, p3]
                  cases r1
                  · simp
                  · simp [p4]
            · cases he
          · cases he
def chkEqa (P : Program) (N : Nat) (o : Oper) (d : Nat) (ne : Bool) (ks : List Nat) (x y : Opd) : Bool := dstIs N o d &&
  (match o.op with | .binOp op t x' y' _ => decide (op = if ne = true then .neq else .eql) && chkOpd x' x && chkOpd y' y && flatStruct P t ks | _ => false)
theorem run_eqGuard_agg {op : BinOp} {t : TypeId} {x y : Operand} {A B : Array Value} (h : P.eqGuardType P.depth t = false) : (eqGuard op t x y (.agg A) (.agg B)).run P w = .ok () w := by
  cases op <;> simp [eqGuard, run_program, h]
theorem sim_eqa {d : Nat} {ne : Bool} {ks : List Nat} {x y : Opd} (h : Rel P gl N g s a w) (hc : chkEqa P N o d ne ks x y = true) (he : ev gl s (.eqa d ne ks x y) = some s') : Sim1 P gl N o g a w s' := by
  simp only [chkEqa, Bool.and_eq_true] at hc
  obtain ⟨hd, hop⟩ := hc
  split at hop
  · rename_i op' t x' y' _ ho
    simp only [Bool.and_eq_true, decide_eq_true_eq] at hop
    obtain ⟨⟨⟨hop', hx⟩, hy⟩, hflat⟩ := hop
    unfold flatStruct at hflat
    split at hflat
    · rename_i fs hu
      simp only [Bool.and_eq_true, Bool.not_eq_true'] at hflat
      obtain ⟨⟨hst, hgd⟩, hff⟩ := hflat
      simp only [ev] at he
      split at he
      · rename_i xs ys h1 h2
        obtain ⟨r, hb, hp⟩ := bind_some he
        obtain ⟨us, e1, q1, _⟩ := (evO_sound h hx h1).agg_inv
        obtain ⟨vs, e2, q2, _⟩ := (evO_sound h hy h2).agg_inv
        have hfo : P.fieldsOf t = fs := by simp [Program.fieldsOf, hu]
        have hr : (Op.equal t (.agg us.toArray) (.agg vs.toArray)).run P w = .ok r w := by
          show (Op.equalIn (9999 + 1) t _ _).run P w = _
          rw [run_equalIn_struct w 9999 t _ _ (by rw [hfo]; exact hu) hst, hfo]
          exact eqFields_sound _ _ 9998 fs.toList ks 0 xs ys us vs r hff hb q1 q2 (by simp) (by simp)
        refine .value h hd hp (v := .bool (if ne = true then !r else r)) ?_ (.pure _ _ (.bool _)) (notOwn_bool _)
        cases ne with
        | false =>
          simp at hop'; subst hop'
          simp only [execOp, ho, e1, e2]
          rw [Sem.run_bind, run_eql (run_eqGuard_agg hgd) (by simp [binOp]) hr]; rfl
        | true =>
          simp at hop'; subst hop'
          simp only [execOp, ho, e1, e2]
          rw [Sem.run_bind, run_neq (run_eqGuard_agg hgd) (by simp [binOp]) hr]; rfl
      · cases he
    · cases hflat
  · cases hop

theorem sim_bin {d m : Nat} {op : BinOp} {x y : Opd} (h : Rel P gl N g s a w) (hc : chkBin P N o d m op x y = true) (he : ev gl s (.bin d m op x y) = some s') : Sim1 P gl N o g a w s' := by
  simp only [chkBin, Bool.and_eq_true] at hc
  obtain ⟨hd, hop⟩ := hc
  split at hop
  · rename_i op' t x' y' _ ho
    simp only [Bool.and_eq_true, decide_eq_true_eq] at hop
    obtain ⟨⟨⟨rfl, hx⟩, hy⟩, hmode⟩ := hop
    simp only [ev] at he
    split at he
    · rename_i u1 u2 h1 h2
      obtain ⟨u, hb, hp⟩ := bind_some he
      have v1 := evO_sound h hx h1
      have v2 := evO_sound h hy h2
      suffices ∃ v, (do eqGuard op' t x' y' (a.eval x') (a.eval y'); binOp op' t (a.eval x') (a.eval y') : Sem Value).run P w = .ok v w ∧ PR g.γ u v ∧ NotOwn u by
        obtain ⟨v, q1, q2, q3⟩ := this
        exact .value h hd hp (by simp only [execOp, ho]; rw [Sem.run_bind, q1]; rfl) (.pure _ _ q2) q3
      have hptr : m = 2 → ∃ e, P.underlying t = some (.pointer e) := by
        rintro rfl
        simp only [binMode] at hmode
        split at hmode
        · rename_i e hu; exact ⟨e, hu⟩
        · cases hmode
      have hptr4 : m = 4 → ∃ e, P.underlying t = some (.pointer e) ∧ (P.info? e).isSome = true := by
        rintro rfl
        simp only [binMode] at hmode
        split at hmode
        · rename_i e hu; exact ⟨e, hu, hmode⟩
        · cases hmode
      unfold binV at hb
      split at hb
      · split at hb
        · rename_i hk
          obtain ⟨_, rfl⟩ := hk
          rw [v1.int_inv, v2.int_inv]
          exact intBin_sound hb t x' y'
        · cases hb
      · split at hb
        · rw [v1.str_inv.1, v2.str_inv.1]
          exact strBin_sound hb t x' y'
        · cases hb
      · rename_i b1 b2
        split at hb
        · rename_i hm3; subst hm3
          simp only [binMode] at hmode
          split at hmode
          · rename_i hu
            rw [v1.bool_inv, v2.bool_inv]
            exact binB_sound hu x' y' hb
          · cases hmode
        · cases hb
      · split at hb
        · rename_i hm2
          obtain ⟨e, hu⟩ := hptr hm2
          rw [v1.nilp_inv, v2.nilp_inv]
          exact binP_sound (r := true) hu x' y' (.inl ⟨rfl, rfl⟩) (by cases op' <;> simp_all)
        · cases hb
      · split at hb
        · rename_i hm2
          obtain ⟨e, hu⟩ := hptr hm2
          obtain ⟨b, _, hv⟩ := v2.ptr_inv
          rw [v1.nilp_inv, hv]
          exact binP_sound (r := false) hu x' y' (.inl ⟨rfl, rfl⟩) (by cases op' <;> simp_all)
        · cases hb
      · split at hb
        · rename_i hm4
          obtain ⟨hm4, rfl, rfl⟩ := hm4
          obtain ⟨e, hu, hi⟩ := hptr4 hm4
          obtain ⟨b, hb1, hv⟩ := v1.ptr_inv
          obtain ⟨b', hb2, hv'⟩ := v2.ptr_inv
          rw [hb1] at hb2; simp at hb2; subst hb2
          rw [hv, hv']
          exact binS_sound hu hi x' y' hb
        · cases hb
      · split at hb
        · rename_i hm2
          obtain ⟨e, hu⟩ := hptr hm2
          obtain ⟨b, _, hv⟩ := v1.ptr_inv
          rw [v2.nilp_inv, hv]
          exact binP_sound (r := false) hu x' y' (.inr ⟨rfl, rfl, rfl⟩) (by cases op' <;> simp_all)
        · cases hb
      · cases hb
    · cases he
  · cases hop
end
end AM
/-! The simulation of lengths, addresses, loads, strings and slices. -/
namespace AM
open Go
section
variable {P : Program} {gl : Glob} {N : Nat} {g : Gh} {s s' : St} {a : Act} {w : World} {o : Oper}

theorem addr_add (b off j : Nat) : (⟨b, off, none⟩ : Addr).add j = ⟨b, off + j, none⟩ := by unfold Addr.add; split <;> simp_all

theorem VR.tup_inv {cs : List AV} {v : Value} (h : VR g (.tup cs) v) : ∃ ws, v = .tuple ws.toArray ∧ VRs g cs ws := by
  cases h with
  | pure _ _ h => cases h
  | tup _ ws h => exact ⟨ws, rfl, h⟩
theorem VR.list_inv {own : Option Nat} {sz : Nat} {xs : List AV} {v : Value} (h : VR g (.list own sz xs) v) :
    ∃ base cap, v = .slice base xs.length cap ∧ (xs.length ≤ M ∧ xs.length ≤ cap) ∧ (xs = [] ∨ ∃ b off, base = some ⟨b, off, none⟩ ∧ PRr g.γ b off sz xs) := by
  have key : PR g.γ (.list none sz xs) v → ∃ base cap, v = .slice base xs.length cap ∧ (xs.length ≤ M ∧ xs.length ≤ cap) ∧ (xs = [] ∨ ∃ b off, base = some ⟨b, off, none⟩ ∧ PRr g.γ b off sz xs) := by
    intro h
    cases h with
    | list0 _ base cap => exact ⟨base, cap, rfl, by simp, .inl rfl⟩
    | list b off cap _ _ h1 h1' h2 => exact ⟨_, cap, rfl, ⟨h1, h1'⟩, .inr ⟨b, off, rfl, h2⟩⟩
  cases h with
  | pure _ _ h =>
    cases own with
    | none => exact key h
    | some e => cases h
  | own _ _ _ _ h => exact key h
theorem VR.cptr_inv {cs : List AV} {v : Value} (h : VR g (.cptr cs) v) : ∃ b off, v = ptrTo b off ∧ PRc g.γ b off cs := by
  cases h with
  | pure _ _ h => cases h with | cptr b off _ h => exact ⟨b, off, rfl, h⟩
theorem PRr.get {γ : Gam} {b sz : Nat} : ∀ {xs : List AV} {off : Nat}, PRr γ b off sz xs → ∀ (i : Nat) x, xs[i]? = some x → x.cells.length = sz ∧ PRc γ b (off + i * sz) x.cells
  | [], _, _, i, x, hx => by simp at hx
  | y :: ys, off, .cons _ _ _ _ _ h1 h2 h3, i, x, hx => by
    cases i with
    | zero => simp at hx; subst hx; simpa using ⟨h1, h2⟩
    | succ i =>
      obtain ⟨p1, p2⟩ := PRr.get h3 i x (by simpa using hx)
      refine ⟨p1, ?_⟩
      have : off + (i + 1) * sz = off + sz + i * sz := by rw [Nat.add_mul]; omega
      rw [this]; exact p2
theorem PRr.drop {γ : Gam} {b sz : Nat} : ∀ (n : Nat) {xs : List AV} {off : Nat}, PRr γ b off sz xs → PRr γ b (off + n * sz) sz (xs.drop n)
  | 0, _, _, h => by simpa using h
  | n + 1, [], _, _ => by simpa using PRr.nil _ _ _
  | n + 1, y :: ys, off, .cons _ _ _ _ _ h1 h2 h3 => by
    have := PRr.drop n h3
    have e : off + (n + 1) * sz = off + sz + n * sz := by rw [Nat.add_mul]; omega
    rw [e]; simpa using this
theorem PRr.take {γ : Gam} {b sz : Nat} : ∀ (n : Nat) {xs : List AV} {off : Nat}, PRr γ b off sz xs → PRr γ b off sz (xs.take n)
  | 0, _, _, _ => by simpa using PRr.nil _ _ _
  | n + 1, [], _, _ => by simpa using PRr.nil _ _ _
  | n + 1, y :: ys, off, .cons _ _ _ _ _ h1 h2 h3 => by simpa using PRr.cons _ _ _ _ _ h1 h2 (PRr.take n h3)
theorem PRc.drop {γ : Gam} {b : Nat} : ∀ (n : Nat) {xs : List AV} {off : Nat}, PRc γ b off xs → PRc γ b (off + n) (xs.drop n)
  | 0, _, _, h => by simpa using h
  | n + 1, [], _, _ => by simpa using PRc.nil _ _
  | n + 1, y :: ys, off, .cons _ _ _ _ v h1 h2 h3 h4 => by
    have := PRc.drop n h4
    have e : off + (n + 1) = off + 1 + n := by omega
    rw [e]; simpa using this
theorem PRc.take {γ : Gam} {b : Nat} : ∀ (n : Nat) {xs : List AV} {off : Nat}, PRc γ b off xs → PRc γ b off (xs.take n)
  | 0, _, _, _ => by simpa using PRc.nil _ _
  | n + 1, [], _, _ => by simpa using PRc.nil _ _
  | n + 1, y :: ys, off, .cons _ _ _ _ v h1 h2 h3 h4 => by simpa using PRc.cons _ _ _ _ v h1 h2 h3 (PRc.take n h4)

def chkExt (N : Nat) (o : Oper) (d x i : Nat) : Bool := dstIs N o d && (match o.op with | .extract (.tmp t) j => t == x && j == i | _ => false)
theorem sim_ext {d x i : Nat} (h : Rel P gl N g s a w) (hc : chkExt N o d x i = true) (he : ev gl s (.ext d x i) = some s') : Sim1 P gl N o g a w s' := by
  simp only [chkExt, Bool.and_eq_true] at hc
  obtain ⟨hd, hop⟩ := hc
  split at hop
  · rename_i t j ho
    simp at hop; obtain ⟨rfl, rfl⟩ := hop
    simp only [ev] at he
    split at he
    · rename_i vs hv
      obtain ⟨u, h1, h2⟩ := bind_some he
      obtain ⟨v, p1, p2, _⟩ := h.env _ _ hv
      obtain ⟨ws, rfl, q⟩ := p2.tup_inv
      obtain ⟨x, q1, q2⟩ := q.get.2 _ _ h1
      exact .value h hd h2 (v := x) (by simp [execOp, ho, Act.eval, p1, Instr.extract, q1]) q2.noOwn (NotOwn.noOwn u)
    · cases he
  · cases hop

/-- A call of a builtin. -/
def bcall (op : Op) : Option (Builtin × List Operand × List TypeId) :=
  match op with
  | .call c => match c.callee with
    | .builtin b => some (b, c.args.toList, c.argTypes.toList)
    | _ => none
  | _ => none
theorem bcall_run {op : Op} {b : Builtin} {xs : List Operand} {ts : List TypeId} (h : bcall op = some (b, xs, ts)) (ho : o.op = op) (ev : Operand → Value) :
    ∃ consts, execOp ev o = builtin b ts.toArray o.type consts (xs.map ev).toArray := by
  unfold bcall at h
  split at h
  · rename_i c
    split at h
    · rename_i b' hc
      simp at h; obtain ⟨rfl, rfl, rfl⟩ := h
      have e : (List.map ev c.args.toList).toArray = c.args.map ev := by apply Array.ext'; simp
      simp only [execOp, ho, resolve, hc, pure_bind, invoke, e, Array.toArray_toList]
      exact ⟨_, rfl⟩
    · cases h
  · cases h
def lenMode (P : Program) (m : Nat) (t : TypeId) : Bool := match P.underlying t with | some .string => m == 0 | some (.slice _) => m == 1 | some (.map _ _) => m == 2 | _ => false
theorem lenMode_str {t : TypeId} (h : lenMode P 0 t = true) : P.underlying t = some .string := by unfold lenMode at h; split at h <;> simp_all
theorem lenMode_slc {t : TypeId} (h : lenMode P 1 t = true) : ∃ e, P.underlying t = some (.slice e) := by unfold lenMode at h; split at h <;> simp_all
theorem lenMode_map {t : TypeId} (h : lenMode P 2 t = true) : ∃ k e, P.underlying t = some (.map k e) := by unfold lenMode at h; split at h <;> simp_all
theorem VR.nilm_inv {v : Value} (h : VR g .nilm v) : v = .map none := by
  cases h with
  | pure _ _ h => cases h; rfl
theorem VR.nils_inv {sz : Nat} {v : Value} (h : VR g (.nils sz) v) : v = .slice none 0 0 := by
  cases h with
  | pure _ _ h => cases h; rfl
theorem VR.map_inv {id : Nat} {v : Value} (h : VR g (.map id) v) : ∃ b, g.ρ id = some b ∧ v = .map (some b) := by
  cases h with
  | pure _ _ h => cases h
  | map _ b hb => exact ⟨b, hb, rfl⟩
theorem VR.sl_inv {id off n sz : Nat} {v : Value} (h : VR g (.sl id off n sz) v) : ∃ b k cap, g.ρ id = some b ∧ g.ρ (id + 1) = some k ∧ off + cap * sz = k ∧ n ≤ cap ∧ v = .slice (some ⟨b, off, none⟩) n cap := by
  cases h with
  | pure _ _ h => cases h
  | sl _ _ _ _ b k cap h1 h2 h3 h4 => exact ⟨b, k, cap, h1, h2, h3, h4, rfl⟩
theorem run_getObj {b : Nat} {o : Obj} (h : w.heap[b]? = some o) (ho : ∀ c e f, o ≠ .cells c e f) : (getObj b).run P w = .ok o w := by
  show (Sem.getObj b Sem.pure).run P w = .ok o w
  simp only [Sem.run, h]
theorem run_len_str {t ty : TypeId} (hu : P.underlying t = some .string) (l : List UInt8) : (Builtin.len_ #[t] ty #[.string ⟨l.toArray⟩]).run P w = .ok (.int .i64 l.length) w := by
  have : (ByteArray.mk l.toArray).size = l.length := by simp [ByteArray.size]
  simp only [Builtin.len_, List.getElem?_toArray, List.getElem?_cons_zero, Sem.run_bind, run_underlying hu, Result.andThen_ok, Sem.run_pure, goInt, this]
theorem run_len_slc {t ty e : TypeId} (hu : P.underlying t = some (.slice e)) (base : Option Addr) (n cap : Nat) : (Builtin.len_ #[t] ty #[.slice base n cap]).run P w = .ok (.int .i64 n) w := by
  simp only [Builtin.len_, List.getElem?_toArray, List.getElem?_cons_zero, Sem.run_bind, run_underlying hu, Result.andThen_ok, Sem.run_pure, goInt]
def chkLen (P : Program) (N : Nat) (o : Oper) (d m : Nat) (x : Opd) : Bool := dstIs N o d &&
  (match bcall o.op with | some (.len, [x'], [t]) => chkOpd x' x && lenMode P m t | _ => false)
theorem sim_len {d m : Nat} {x : Opd} (h : Rel P gl N g s a w) (hc : chkLen P N o d m x = true) (he : ev gl s (.len d m x) = some s') : Sim1 P gl N o g a w s' := by
  simp only [chkLen, Bool.and_eq_true] at hc
  obtain ⟨hd, hop⟩ := hc
  split at hop
  · rename_i x' t ho
    obtain ⟨cst, hrun⟩ := bcall_run (o := o) ho rfl a.eval
    simp only [Bool.and_eq_true] at hop
    obtain ⟨hx, hu⟩ := hop
    simp only [ev] at he
    split at he
    · rename_i own sz xs hv
      split at he
      · rename_i hm1; subst hm1
        obtain ⟨e, hu⟩ := lenMode_slc hu
        obtain ⟨base, cap, hv', _⟩ := (evO_sound h hx hv).list_inv
        refine .value h hd he (v := .int .i64 xs.length) ?_ (.pure _ _ (.int _ _)) (notOwn_int _ _)
        rw [hrun]; simp only [builtin, List.map_cons, List.map_nil, hv', Sem.run_bind, run_len_slc hu, Result.andThen_ok, Sem.run_pure]
      · cases he
    · rename_i l hv
      split at he
      · rename_i hm1; subst hm1
        have hu := lenMode_str hu
        have hv' := (evO_sound h hx hv).str_inv.1
        refine .value h hd he (v := .int .i64 l.length) ?_ (.pure _ _ (.int _ _)) (notOwn_int _ _)
        rw [hrun]; simp only [builtin, List.map_cons, List.map_nil, hv', Sem.run_bind, run_len_str hu, Result.andThen_ok, Sem.run_pure]
      · cases he
    · split at he
      · rename_i hv hm1; subst hm1
        obtain ⟨_, e, hu⟩ := lenMode_map hu
        have hv' := (evO_sound h hx hv).nilm_inv
        refine .value h hd he (v := .int .i64 0) ?_ (.pure _ _ (.int _ _)) (notOwn_int _ _)
        rw [hrun]; simp only [builtin, List.map_cons, List.map_nil, hv', Builtin.len_, List.getElem?_toArray, List.getElem?_cons_zero, Sem.run_bind, run_underlying hu, Result.andThen_ok, Sem.run_pure, goInt]
      · cases he
    · split at he
      · rename_i hv hm1; subst hm1
        obtain ⟨e, hu⟩ := lenMode_slc hu
        have hv' := (evO_sound h hx hv).nils_inv
        refine .value h hd he (v := .int .i64 0) ?_ (.pure _ _ (.int _ _)) (notOwn_int _ _)
        rw [hrun]; simp only [builtin, List.map_cons, List.map_nil, hv', Sem.run_bind, run_len_slc hu, Result.andThen_ok, Sem.run_pure]; rfl
      · cases he
    · split at he
      · rename_i hv hm1; subst hm1
        obtain ⟨e, hu⟩ := lenMode_slc hu
        obtain ⟨b, k, cap, _, _, _, _, hv'⟩ := (evO_sound h hx hv).sl_inv
        refine .value h hd he (v := .int .i64 _) ?_ (.pure _ _ (.int _ _)) (notOwn_int _ _)
        rw [hrun]; simp only [builtin, List.map_cons, List.map_nil, hv', Sem.run_bind, run_len_slc hu, Result.andThen_ok, Sem.run_pure]
      · cases he
    · split at he
      · rename_i hv hm1; subst hm1
        split at he
        · rename_i n es hid
          obtain ⟨_, e, hu⟩ := lenMode_map hu
          obtain ⟨b, hb, hv'⟩ := (evO_sound h hx hv).map_inv
          obtain ⟨b', hb', arr, p1, p2, ⟨es', r1, r2, r3⟩, p5⟩ := h.heap _ _ hid
          rw [hb] at hb'; simp at hb'; subst hb'
          have hsz : arr.size = es.length := by rw [← r1.length_eq, r2]; simp
          refine .value h hd he (v := .int .i64 es.length) ?_ (.pure _ _ (.int _ _)) (notOwn_int _ _)
          rw [hrun]; simp [builtin, hv', Builtin.len_, run_underlying hu, goInt, run_getObj p1 (by simp), hsz]
        · cases he
      · cases he
    · cases he
  · cases hop

/-- What an address is. -/
def AdrR (P : Program) (g : Gh) (s : St) (a : Act) (w : World) (v : Value) : Adr → Prop
  | .bx t off => ∃ b cs, s.env.get t = some (.b cs) ∧ a.tmps[t]? = some (ptrTo b 0) ∧ v = ptrTo b off ∧ BlkR P g w b (.bx t) (.bc t) cs
  | .hp id off => ∃ b, g.ρ id = some b ∧ v = ptrTo b off
  | .im cs => ∃ b off, v = ptrTo b off ∧ PRc g.γ b off cs
theorem adr_sound (h : Rel P gl N g s a w) {y : Operand} {x : Opd} {p : Adr} (hc : chkOpd y x = true) (he : adr gl s.env x = some p) : AdrR P g s a w (a.eval y) p := by
  unfold adr at he
  split at he
  · rename_i n
    have hy : y = .tmp n := by unfold chkOpd at hc; split at hc <;> simp_all
    subst hy
    split at he
    · rename_i cs hn
      simp at he; subst he
      obtain ⟨b, p1, p2⟩ := h.env _ _ hn
      exact ⟨b, cs, hn, p1, by simp [Act.eval, p1], p2⟩
    · rename_i t off hn
      simp at he; subst he
      obtain ⟨⟨cs, hu⟩, b, p1, p2⟩ := h.env _ _ hn
      obtain ⟨b', q1, q2⟩ := h.env _ _ hu
      rw [p2] at q1; simp [ptrTo] at q1; subst q1
      exact ⟨b, cs, hu, p2, by simp [Act.eval, p1], q2⟩
    · rename_i id off hn
      simp at he; subst he
      obtain ⟨v, p1, p2, _⟩ := h.env _ _ hn
      obtain ⟨b, q1, q2⟩ := p2.ptr_inv
      exact ⟨b, q1, by simp [Act.eval, p1, q2]⟩
    · rename_i cs hn
      simp at he; subst he
      obtain ⟨v, p1, p2, _⟩ := h.env _ _ hn
      obtain ⟨b, off, q1, q2⟩ := p2.cptr_inv
      exact ⟨b, off, by simp [Act.eval, p1, q1], q2⟩
    · cases he
  · rename_i n
    have hy : y = .global n := by unfold chkOpd at hc; split at hc <;> simp_all
    subst hy
    split at he
    · rename_i cs hn
      simp at he; subst he
      have := h.glob _ _ hn
      cases this with
      | cptr b off _ hh => exact ⟨n, 0, rfl, hh⟩
    · cases he
  · cases he

/-- Cells that are read. -/
def CellsR (g : Gh) (w : World) (b off : Nat) (cs : List AV) : Prop :=
  ∃ ws : List Value, ws.length = cs.length ∧ VRs g cs ws ∧ (∀ v ∈ ws, v.oneCell' = true) ∧ ∀ j v, ws[j]? = some v → w.cell? ⟨b, off + j, none⟩ = some v
theorem VRs.of_get {ws : List Value} : ∀ {cs : List AV}, ws.length = cs.length → (∀ (i : Nat) c v, cs[i]? = some c → ws[i]? = some v → VR g c v) → VRs g cs ws := by
  induction ws with
  | nil => intro cs h _; cases cs with | nil => exact .nil | cons => simp at h
  | cons w ws ih =>
    intro cs h hh
    cases cs with
    | nil => simp at h
    | cons c cs => exact .cons _ _ _ _ (hh 0 c w (by simp) (by simp)) (ih (by simpa using h) fun i c v hc hv => hh (i + 1) c v (by simpa using hc) (by simpa using hv))
theorem BlkR.cells {b : Nat} {ow : Owner} {oc : Nat → Owner} {cs : List AV} (h : BlkR P g w b ow oc cs) {off n : Nat} : CellsR g w b off ((cs.drop off).take n) := by
  obtain ⟨arr, ty, h1, h2, h3, h4, h5⟩ := h
  generalize hL : arr.toList.take cs.length = L
  have hl : L.length = cs.length := by rw [← hL]; simp; omega
  have hget : ∀ (i : Nat) v, L[i]? = some v → arr[i]? = some v := fun i v hv => by
    rw [← hL, List.getElem?_take] at hv
    split at hv
    · simpa using hv
    · cases hv
  refine ⟨(L.drop off).take n, by simp [hl], .of_get (by simp [hl]) fun i c v hc hv => ?_, fun v hv => ?_, fun j v hv => ?_⟩
  · rw [List.getElem?_take] at hc hv
    split at hc
    · rw [List.getElem?_drop] at hc
      rename_i hi; rw [if_pos hi, List.getElem?_drop] at hv
      obtain ⟨v', p1, _, p3, _⟩ := h5 _ _ hc
      have hv := hget _ _ hv; rw [p1] at hv; simp at hv; subst hv; exact p3
    · cases hc
  · obtain ⟨i, hi, hvi⟩ := List.getElem_of_mem hv
    have hvi' : ((L.drop off).take n)[i]? = some v := by rw [List.getElem?_eq_getElem hi, hvi]
    rw [List.getElem?_take] at hvi'
    split at hvi'
    · rw [List.getElem?_drop] at hvi'
      have hlt : off + i < cs.length := by have := (List.getElem?_eq_some_iff.1 hvi').1; omega
      obtain ⟨v', p1, p2, _⟩ := h5 (off + i) cs[off + i] (by simp [hlt])
      have hvi' := hget _ _ hvi'; rw [p1] at hvi'; simp at hvi'; subst hvi'; exact p2
    · cases hvi'
  · rw [List.getElem?_take] at hv
    split at hv
    · rw [List.getElem?_drop] at hv
      rw [cell_of_row w b _ arr ty (0, 0) h1]; exact hget _ _ hv
    · cases hv
theorem PRc.cellsR {g : Gh} {w : World} (hgam : ∀ b off v, g.γ b off = some v → w.cell? ⟨b, off, none⟩ = some v) : ∀ {cs : List AV} {b off : Nat}, PRc g.γ b off cs → CellsR g w b off cs
  | [], _, _, _ => ⟨[], rfl, .nil, by simp, by simp⟩
  | c :: cs, b, off, .cons _ _ _ _ v h1 h2 h3 h4 => by
    obtain ⟨ws, q1, q2, q3, q4⟩ := PRc.cellsR hgam h4
    refine ⟨v :: ws, by simp [q1], .cons _ _ _ _ (.pure _ _ h3) q2, by simpa [h2] using q3, fun j u hu => ?_⟩
    cases j with
    | zero => simp at hu; subst hu; exact hgam _ _ _ h1
    | succ j => have := q4 j u (by simpa using hu); rw [← this]; congr 2; omega
theorem rdAt_sound (h : Rel P gl N g s a w) {v : Value} {p : Adr} (hp : AdrR P g s a w v p) {n : Nat} {cs : List AV} (hr : rdAt s n p = some cs) : ∃ b off, v = ptrTo b off ∧ CellsR g w b off cs ∧ cs.length = n := by
  cases p with
  | bx t off =>
    obtain ⟨b, cs', p1, p2, p3, p4⟩ := hp
    simp only [rdAt, p1] at hr
    split at hr
    · rename_i hn
      simp at hr; subst hr
      exact ⟨b, off, p3, p4.cells, by simp; omega⟩
    · cases hr
  | hp id off =>
    obtain ⟨b, p1, p2⟩ := hp
    simp only [rdAt] at hr
    split at hr
    · rename_i cs' hid
      obtain ⟨b', q1, q2⟩ := h.heap _ _ hid
      rw [p1] at q1; simp at q1; subst q1
      split at hr
      · rename_i hn
        simp at hr; subst hr
        exact ⟨b, off, p2, q2.cells, by simp; omega⟩
      · cases hr
    · rename_i e cs' hid
      obtain ⟨b', k, q1, _, q2, _⟩ := h.heap _ _ hid
      rw [p1] at q1; simp at q1; subst q1
      split at hr
      · rename_i hn
        simp at hr; subst hr
        exact ⟨b, off, p2, q2.cells, by simp; omega⟩
      · cases hr
    · cases hr
  | im cs' =>
    obtain ⟨b, off, p1, p2⟩ := hp
    simp only [rdAt] at hr
    split at hr
    · rename_i hn
      simp at hr; subst hr
      exact ⟨b, off, p1, (p2.take n).cellsR h.gam, by simp; omega⟩
    · cases hr

theorem VRs.noOwn {cs : List AV} {ws : List Value} (h : VRs g cs ws) : VRs g (cs.map AV.noOwn) ws := by
  induction ws generalizing cs with
  | nil => cases h; exact .nil
  | cons w ws ih => cases h with | cons c cs _ _ h1 h2 => exact .cons _ _ _ _ h1.noOwn (ih h2)

def chkLd (P : Program) (N : Nat) (o : Oper) (d : Nat) (x : Opd) (n : Nat) (ag : Bool) : Bool := dstIs N o d &&
  (match o.op with | .load t x' => chkOpd x' x && (match P.info? t with | some i => i.size == n | none => false) &&
    (match P.underlying t with | some (.struct _) | some (.array _ _) => ag | some _ => !ag && n == 1 | none => false) | _ => false)
theorem run_load_cells {t : TypeId} {i : TypeInfo} {dsc : TypeDesc} {b off : Nat} {ws : List Value} (hi : P.info? t = some i) (hu : P.underlying t = some dsc) (hl : ws.length = i.size)
    (hw : ∀ j v, ws[j]? = some v → w.cell? ⟨b, off + j, none⟩ = some v) (hag : (∃ fs, dsc = .struct fs) ∨ ∃ n e, dsc = .array n e) : (Instr.loadAt t (ptrTo b off)).run P w = .ok (.agg ws.toArray) w := by
  have h1 := run_loadCells_list (P := P) (w := w) ⟨b, off, none⟩ ws (fun j v hv => by rw [addr_add]; exact hw j v hv)
  have h2 : (isAgg t).run P w = .ok true w := by
    rcases hag with ⟨fs, rfl⟩ | ⟨n, e, rfl⟩ <;> simp [isAgg, run_underlying hu]
  rw [hl] at h1
  simp [Instr.loadAt, Instr.sureAddr, ptrTo, loadVar, h2, Go.sizeOf, typeInfo, hi, h1]
theorem run_load_one {t : TypeId} {dsc : TypeDesc} {b off : Nat} {v : Value} (hu : P.underlying t = some dsc) (hag : (∀ fs, dsc ≠ .struct fs) ∧ ∀ n e, dsc ≠ .array n e)
    (hw : w.cell? ⟨b, off, none⟩ = some v) : (Instr.loadAt t (ptrTo b off)).run P w = .ok v w := by
  have h2 : (isAgg t).run P w = .ok false w := by
    cases dsc <;> first | (simp [isAgg, run_underlying hu]; done) | exact absurd rfl (hag.1 _) | exact absurd rfl (hag.2 _ _)
  simp [Instr.loadAt, Instr.sureAddr, ptrTo, loadVar, h2, hw]
theorem sim_ld {d : Nat} {x : Opd} {n : Nat} {ag : Bool} (h : Rel P gl N g s a w) (hc : chkLd P N o d x n ag = true) (he : ev gl s (.ld d x n ag) = some s') : Sim1 P gl N o g a w s' := by
  simp only [chkLd, Bool.and_eq_true] at hc
  obtain ⟨hd, hop⟩ := hc
  split at hop
  · rename_i t x' ho
    simp only [Bool.and_eq_true] at hop
    obtain ⟨⟨hx, hsz⟩, hk⟩ := hop
    split at hsz
    · rename_i i hi
      simp at hsz
      simp only [ev] at he
      obtain ⟨p, h1, he⟩ := bind_some he
      obtain ⟨cs, h2, he⟩ := bind_some he
      obtain ⟨b, off, hv, ⟨ws, q1, q2, q3, q4⟩, q5⟩ := rdAt_sound h (adr_sound h hx h1) h2
      have hag1 : ag = true → ((execOp a.eval o).run P w = .ok (.value (.agg ws.toArray)) w) := by
        intro hag
        simp only [execOp, ho, Sem.run_bind, hv]
        split at hk
        · rename_i fs hu; rw [run_load_cells hi hu (by omega) q4 (.inl ⟨fs, rfl⟩)]; rfl
        · rename_i m e hu; rw [run_load_cells hi hu (by omega) q4 (.inr ⟨m, e, rfl⟩)]; rfl
        · simp [hag] at hk
        · cases hk
      split at he
      · rename_i hag
        exact .value h hd he (hag1 hag) (.agg _ _ q2.noOwn q3) (fun _ _ _ h => by simp at h)
      · rename_i hag
        split at he
        · rename_i c
          cases q2 with
          | cons _ _ u us hu hus =>
            cases hus
            have hcell := q4 0 u (by simp)
            refine .value h hd he (v := u) ?_ hu.noOwn (NotOwn.noOwn c)
            simp only [execOp, ho, Sem.run_bind, hv]
            split at hk
            · simp [hag] at hk
            · simp [hag] at hk
            · rename_i dsc hd1 hd2 hu'
              rw [run_load_one hu' ⟨fun fs e => hd1 fs e, fun n e e' => hd2 n e e'⟩ (by simpa using hcell)]; rfl
            · cases hk
        · cases he
    · cases hsz
  · cases hop
end
end AM
/-! The simulation of element addresses, fields, strings, slices, literals. -/
namespace AM
open Go
section
variable {P : Program} {gl : Glob} {N : Nat} {g : Gh} {s s' : St} {a : Act} {w : World} {o : Oper}

theorem notOwn_cptr (cs : List AV) : NotOwn (.cptr cs) := fun _ _ _ h => by simp at h
theorem notOwn_ptr (id off : Nat) : NotOwn (.ptr id off) := fun _ _ _ h => by simp at h

def fieldOk (P : Program) (t f off : Nat) : Bool :=
  match P.underlying t with
  | some (.struct fs) =>
    match fs[f]? with
    | some fd => fd.offset == off && (match P.info? fd.type with | some i => i.size != 0 | none => false)
    | none => false
  | _ => false
def chkFa (P : Program) (N : Nat) (o : Oper) (d : Nat) (x : Opd) (off : Nat) : Bool := dstIs N o d &&
  (match o.op with | .fieldAddr t x' f => chkOpd x' x && fieldOk P t f off | _ => false)
theorem run_fieldAt {t : TypeId} {fs : Array Field} {f : Nat} {fd : Field} {i : TypeInfo} (hu : P.underlying t = some (.struct fs)) (hf : fs[f]? = some fd) (hi : P.info? fd.type = some i)
    (hn : i.size ≠ 0) (b off : Nat) : (Instr.fieldAt t (ptrTo b off) f).run P w = .ok (ptrTo b (off + fd.offset)) w := by
  simp only [Instr.fieldAt, Sem.run_bind, run_underlying hu, Result.andThen_ok, hf, Instr.sureAddr, ptrTo, fieldPlace, Go.sizeOf, typeInfo, run_program, hi, Sem.run_pure, Sem.run_ite, hn, if_false, addr_add]
theorem Sim1.addr (h : Rel P gl N g s a w) {d u off b : Nat} {cs : List AV} (hd : dstIs N o d = true) (hok : okPut s.env d = true) (hu : s.env.get u = some (.b cs)) (hb : a.tmps[u]? = some (ptrTo b 0))
    (hr : (execOp a.eval o).run P w = .ok (.value (ptrTo b off)) w) : Sim1 P gl N o g a w { s with env := s.env.ins d (.a u off) } := by
  simp only [dstIs, Bool.and_eq_true, beq_iff_eq, decide_eq_true_eq] at hd
  refine ⟨_, w, g, .inl hr, GLe.refl _ _, ?_⟩
  rw [hd.1]
  exact h.putA hok hd.2 hu hb
theorem sim_fa {d : Nat} {x : Opd} {off : Nat} (h : Rel P gl N g s a w) (hc : chkFa P N o d x off = true) (he : ev gl s (.fa d x off) = some s') : Sim1 P gl N o g a w s' := by
  simp only [chkFa, Bool.and_eq_true] at hc
  obtain ⟨hd, hop⟩ := hc
  split at hop
  · rename_i t x' f ho
    simp only [Bool.and_eq_true] at hop
    obtain ⟨hx, hk⟩ := hop
    unfold fieldOk at hk
    split at hk
    · rename_i fs hu
      split at hk
      · rename_i fd hfd
        simp only [Bool.and_eq_true, beq_iff_eq] at hk
        obtain ⟨rfl, hk⟩ := hk
        split at hk
        · rename_i i hi
          simp at hk
          have hrun : ∀ b o', a.eval x' = ptrTo b o' → (execOp a.eval o).run P w = .ok (.value (ptrTo b (o' + fd.offset))) w := by
            intro b o' e
            simp only [execOp, ho, Sem.run_bind, e, run_fieldAt hu hfd hi hk, Result.andThen_ok, Sem.run_pure]
          simp only [ev] at he
          split at he
          · rename_i t' o' hp
            obtain ⟨b, cs, q1, q2, q3, q4⟩ := adr_sound h hx hp
            split at he
            · rename_i hok
              simp at he; subst he
              exact .addr h hd hok q1 q2 (hrun _ _ q3)
            · cases he
          · rename_i id o' hp
            obtain ⟨b, q1, q2⟩ := adr_sound h hx hp
            exact .value h hd he (hrun _ _ q2) (.ptr _ _ _ q1) (notOwn_ptr _ _)
          · rename_i cs hp
            obtain ⟨b, o', q1, q2⟩ := adr_sound h hx hp
            split at he
            · exact .value h hd he (hrun _ _ q1) (.pure _ _ (.cptr _ _ _ (q2.drop _))) (notOwn_cptr _)
            · cases he
          · cases he
        · cases hk
      · cases hk
    · cases hk
  · cases hop

def sliceOk (P : Program) (t sz : Nat) : Bool :=
  match P.underlying t with
  | some (.slice e) => (match P.info? e with | some f => f.size == sz | none => false)
  | _ => false
def chkIa (P : Program) (N : Nat) (o : Oper) (d sz : Nat) (x i : Opd) : Bool := dstIs N o d &&
  (match o.op with | .indexAddr t x' i' => chkOpd x' x && chkOpd i' i && sliceOk P t sz | _ => false)
theorem run_indexAt {t e : TypeId} {f : TypeInfo} (hu : P.underlying t = some (.slice e)) (hi : P.info? e = some f) (b off len cap : Nat) (k : IntKind) {n : Int} (h0 : 0 ≤ n) (h1 : n < len) :
    (Instr.indexAt t (.slice (some ⟨b, off, none⟩) len cap) (.int k n)).run P w = .ok (ptrTo b (off + n.toNat * f.size)) w := by
  simp [Instr.indexAt, asIntOf, run_underlying hu, h0, h1, Go.sizeOf, typeInfo, hi, addr_add, ptrTo]
theorem sim_ia {d sz : Nat} {x i : Opd} (h : Rel P gl N g s a w) (hc : chkIa P N o d sz x i = true) (he : ev gl s (.ia d sz x i) = some s') : Sim1 P gl N o g a w s' := by
  simp only [chkIa, Bool.and_eq_true] at hc
  obtain ⟨hd, hop⟩ := hc
  split at hop
  · rename_i t x' i' ho
    simp only [Bool.and_eq_true] at hop
    obtain ⟨⟨hx, hi⟩, hk⟩ := hop
    unfold sliceOk at hk
    split at hk
    · rename_i e hu
      split at hk
      · rename_i f hf
        simp at hk
        simp only [ev] at he
        split at he
        · rename_i own sz' xs k n h1 h2
          split at he
          · rename_i hb
            obtain ⟨rfl, hb0, hb1⟩ := hb
            obtain ⟨u, q1, q2⟩ := bind_some he
            obtain ⟨base, cap, p1, p2, p3⟩ := (evO_sound h hx h1).list_inv
            have p4 := (evO_sound h hi h2).int_inv
            rcases p3 with rfl | ⟨b, off, rfl, p5⟩
            · simp at q1
            · obtain ⟨r1, r2⟩ := p5.get _ _ q1
              refine .value h hd q2 (v := ptrTo b (off + n.toNat * sz')) ?_ (.pure _ _ (.cptr _ _ _ r2)) (notOwn_cptr _)
              simp only [execOp, ho, Sem.run_bind, p1, p4, run_indexAt hu hf b off _ cap k hb0 hb1, Result.andThen_ok, Sem.run_pure, hk]
          · cases he
        · rename_i id off m sz' k n h1 h2
          split at he
          · rename_i hb
            obtain ⟨rfl, hb0, hb1⟩ := hb
            obtain ⟨b, kk, cap, p1, _, _, _, p3⟩ := (evO_sound h hx h1).sl_inv
            have p4 := (evO_sound h hi h2).int_inv
            refine .value h hd he (v := ptrTo b (off + n.toNat * sz')) ?_ (.ptr _ _ _ p1) (fun _ _ _ h => by simp at h)
            simp only [execOp, ho, Sem.run_bind, p3, p4, run_indexAt hu hf b off _ cap k hb0 hb1, Result.andThen_ok, Sem.run_pure, hk]
          · cases he
        · cases he
      · cases hk
    · cases hk
  · cases hop

def chkIdx (P : Program) (N : Nat) (o : Oper) (d : Nat) (x i : Opd) : Bool := dstIs N o d &&
  (match o.op with | .index t x' i' => chkOpd x' x && chkOpd i' i && (match P.underlying t with | some .string => true | _ => false) | _ => false)
theorem mk_getElem (l : List UInt8) (n : Nat) : (ByteArray.mk l.toArray)[n]? = l[n]? := by
  by_cases h : n < l.length
  · have h' : n < (ByteArray.mk l.toArray).size := by simpa [ByteArray.size] using h
    rw [getElem?_pos _ n h', List.getElem?_eq_getElem h]
    rfl
  · have h' : ¬ n < (ByteArray.mk l.toArray).size := by simpa [ByteArray.size] using h
    rw [getElem?_neg _ n h', List.getElem?_eq_none (by omega)]
theorem sim_idx {d : Nat} {x i : Opd} (h : Rel P gl N g s a w) (hc : chkIdx P N o d x i = true) (he : ev gl s (.idx d x i) = some s') : Sim1 P gl N o g a w s' := by
  simp only [chkIdx, Bool.and_eq_true] at hc
  obtain ⟨hd, hop⟩ := hc
  split at hop
  · rename_i t x' i' ho
    simp only [Bool.and_eq_true] at hop
    obtain ⟨⟨hx, hi⟩, hk⟩ := hop
    split at hk
    · rename_i hu
      simp only [ev] at he
      split at he
      · rename_i l k n h1 h2
        split at he
        · rename_i hb0
          obtain ⟨u, q1, q2⟩ := bind_some he
          have p1 := (evO_sound h hx h1).str_inv.1
          have p2 := (evO_sound h hi h2).int_inv
          refine .value h hd q2 (v := .int .u8 u.toNat) ?_ (.pure _ _ (.int _ _)) (notOwn_int _ _)
          simp only [execOp, ho, Sem.run_bind, p1, p2, Instr.index, asIntOf, Sem.run_pure, Result.andThen_ok, run_underlying hu, hb0, if_true, mk_getElem, q1]
        · cases he
      · cases he
    · cases hk
  · cases hop

def chkBnd : Option Operand → Option Opd → Bool
  | none, none => true
  | some x, some y => chkOpd x y
  | _, _ => false
theorem run_bound {x : Value} {k : IntKind} {n : Int} {y : Nat} {code : BoundsCode} (hx : x = .int k n) (h0 : 0 ≤ n) (h1 : n ≤ y) : (Instr.sliceBound x y code).run P w = .ok n.toNat w := by
  subst hx; simp [Instr.sliceBound, asIntOf, h0, h1]
theorem bnd_sound (h : Rel P gl N g s a w) {x : Option Operand} {y : Option Opd} {dflt : Nat} {n : Int} (hc : chkBnd x y = true) (he : bnd gl s.env dflt y = some n) :
    (x = none ∧ n = dflt) ∨ ∃ z k, x = some z ∧ a.eval z = .int k n := by
  unfold chkBnd at hc
  split at hc
  · simp only [bnd] at he; simp at he; exact .inl ⟨rfl, he.symm⟩
  · rename_i x y
    simp only [bnd] at he
    split at he
    · rename_i k m hm
      simp at he; subst he
      exact .inr ⟨x, k, rfl, (evO_sound h hc hm).int_inv⟩
    · cases he
  · cases hc
theorem run_bounds (h : Rel P gl N g s a w) {lo hi : Option Operand} {lo' hi' : Option Opd} {len cap : Nat} {l r : Int} (isS : Bool) (hlo : chkBnd lo lo' = true) (hhi : chkBnd hi hi' = true)
    (el : bnd gl s.env 0 lo' = some l) (eh : bnd gl s.env len hi' = some r) (h0 : 0 ≤ l) (h1 : l ≤ r) (h2 : r ≤ len) (hcap : len ≤ cap) :
    (Instr.sliceBounds isS len cap (lo.map a.eval) (hi.map a.eval) none).run P w = .ok (l.toNat, r.toNat, cap) w := by
  unfold Instr.sliceBounds
  rcases bnd_sound h hhi eh with ⟨rfl, hr⟩ | ⟨z, k, rfl, hz⟩
  · rcases bnd_sound h hlo el with ⟨rfl, hl'⟩ | ⟨z', k', rfl, hz'⟩
    · subst hr hl'; simp
    · subst hr
      simp [run_bound hz' h0 (show l ≤ ((len : Nat) : Int) by omega)]
  · rcases bnd_sound h hlo el with ⟨rfl, hl'⟩ | ⟨z', k', rfl, hz'⟩
    · subst hl'
      simp [run_bound hz (by omega) (show r ≤ ((cap : Nat) : Int) by omega)]
    · simp [run_bound hz (by omega) (show r ≤ ((cap : Nat) : Int) by omega), run_bound hz' h0 (show l ≤ ((r.toNat : Nat) : Int) by omega)]
end
end AM
/-! The simulation of slices, literals, structs, functions, checks for nil, made slices. -/
namespace AM
open Go
section
variable {P : Program} {gl : Glob} {N : Nat} {g : Gh} {s s' : St} {a : Act} {w : World} {o : Oper}

def strOk (P : Program) (t : TypeId) : Bool := match P.underlying t with | some .string => true | _ => false
theorem strOk_spec {t : TypeId} (h : strOk P t = true) : P.underlying t = some .string := by unfold strOk at h; split at h <;> simp_all
def chkSlc (P : Program) (N : Nat) (o : Oper) (d szz : Nat) (x : Opd) (lo hi : Option Opd) : Bool := dstIs N o d &&
  (match o.op with | .slice t x' lo' hi' none => chkOpd x' x && chkBnd lo' lo && chkBnd hi' hi && (if szz = 0 then strOk P t else sliceOk P t szz) | _ => false)
theorem mk_extract (l : List UInt8) (i j : Nat) : (ByteArray.mk l.toArray).extract i j = ByteArray.mk ((l.take j).drop i).toArray := by
  apply ByteArray.ext
  simp only [ByteArray.data_extract]
  apply Array.ext'
  simp [List.drop_take]
theorem run_slice_str {t : TypeId} {l : List UInt8} {lo hi : Option Value} {i j : Nat} (hu : P.underlying t = some .string) (hb : (Instr.sliceBounds false l.length l.length lo hi none).run P w = .ok (i, j, l.length) w) :
    (Instr.sliceAt t (.string ⟨l.toArray⟩) lo hi none).run P w = .ok (.string ⟨((l.take j).drop i).toArray⟩) w := by
  have e : (ByteArray.mk l.toArray).size = l.length := by simp [ByteArray.size]
  simp only [Instr.sliceAt, Sem.run_bind, run_underlying hu, Result.andThen_ok, Instr.slice, Option.isSome_none, Bool.false_eq_true, if_false, e, hb, Sem.run_pure, mk_extract]
theorem run_slice_slc {t e : TypeId} {f : TypeInfo} {base : Option Addr} {len cap : Nat} {lo hi : Option Value} {i j : Nat} (hu : P.underlying t = some (.slice e)) (hf : P.info? e = some f)
    (hb : (Instr.sliceBounds true len cap lo hi none).run P w = .ok (i, j, cap) w) :
    (Instr.sliceAt t (.slice base len cap) lo hi none).run P w = .ok (.slice (if cap = i then base else base.map (·.add (i * f.size))) (j - i) (cap - i)) w := by
  simp only [Instr.sliceAt, Sem.run_bind, run_underlying hu, Result.andThen_ok, Instr.slice, hb, Sem.run_pure, Go.sizeOf, typeInfo, run_program, hf]
theorem PR.list_of {γ : Gam} {b off cap sz : Nat} {xs : List AV} {n : Nat} (hn : n = xs.length) (h1 : xs.length ≤ M) (h1' : xs.length ≤ cap) (h2 : PRr γ b off sz xs) : PR γ (.list none sz xs) (.slice (some ⟨b, off, none⟩) n cap) := by
  subst hn; exact .list _ _ _ _ _ h1 h1' h2
theorem PR.list_nil {γ : Gam} {sz n cap : Nat} {base : Option Addr} {xs : List AV} (hx : xs = []) (hn : n = 0) : PR γ (.list none sz xs) (.slice base n cap) := by
  subst hx; subst hn; exact .list0 _ _ _
theorem sim_slc {d szz : Nat} {x : Opd} {lo hi : Option Opd} (h : Rel P gl N g s a w) (hc : chkSlc P N o d szz x lo hi = true) (he : ev gl s (.slc d szz x lo hi) = some s') : Sim1 P gl N o g a w s' := by
  simp only [chkSlc, Bool.and_eq_true] at hc
  obtain ⟨hd, hop⟩ := hc
  split at hop
  · rename_i t x' lo' hi' ho
    simp only [Bool.and_eq_true] at hop
    obtain ⟨⟨⟨hx, hlo⟩, hhi⟩, hk⟩ := hop
    simp only [ev] at he
    split at he
    · rename_i l hl
      split at he
      · rename_i i j hi1 hj1
        split at he
        · rename_i hb
          obtain ⟨h0, h1, h2, h3⟩ := hb
          simp only [h0, if_true] at hk
          have hu := strOk_spec hk
          have hv := (evO_sound h hx hl).str_inv
          have hbd := run_bounds (P := P) (w := w) h false hlo hhi hi1 hj1 h1 h2 h3 (Nat.le_refl _)
          refine .value h hd he ?_ (.pure _ _ (.str ((l.take j.toNat).drop i.toNat) ?_)) (notOwn_str _)
          · simp only [execOp, ho, Option.map_none, Sem.run_bind, hv.1, run_slice_str hu hbd, Result.andThen_ok, Sem.run_pure]
          · have := hv.2; simp; omega
        · cases he
      · cases he
    · rename_i own sz xs hl
      split at he
      · rename_i i j hi1 hj1
        split at he
        · rename_i hb
          obtain ⟨h0, h00, h1, h2, h3⟩ := hb
          subst h0
          simp only [h00, if_false] at hk
          unfold sliceOk at hk
          split at hk
          · rename_i e hu
            split at hk
            · rename_i f hf
              simp at hk
              obtain ⟨base, cap, p1, p2, p3⟩ := (evO_sound h hx hl).list_inv
              have hcap : xs.length ≤ cap := p2.2
              have hbd := run_bounds (P := P) (w := w) h true hlo hhi hi1 hj1 h1 h2 h3 hcap
              refine .value h hd he (v := .slice (if cap = i.toNat then base else base.map (·.add (i.toNat * f.size))) (j.toNat - i.toNat) (cap - i.toNat)) ?_ ?_ (NotOwn.none _ _)
              · simp only [execOp, ho, Option.map_none, Sem.run_bind, p1, run_slice_slc hu hf hbd, Result.andThen_ok, Sem.run_pure]
              · have hlen : ((xs.take j.toNat).drop i.toNat).length = j.toNat - i.toNat := by simp; omega
                by_cases hij : j.toNat = i.toNat
                · exact .pure _ _ (.list_nil (by apply List.eq_nil_of_length_eq_zero; omega) (by omega))
                · rcases p3 with rfl | ⟨b, off, rfl, p5⟩
                  · simp at h3; omega
                  · have hne : ¬ cap = i.toNat := by omega
                    simp only [hne, if_false, Option.map_some, addr_add, hk]
                    exact .pure _ _ (.list_of hlen.symm (by simp; omega) (by omega) ((p5.take _).drop _))
            · cases hk
          · cases hk
        · cases he
      · cases he
    · rename_i sz hl
      split at he
      · rename_i i j hi1 hj1
        split at he
        · rename_i hb
          obtain ⟨h0, h00, h1, h2⟩ := hb
          subst h0 h1 h2
          simp only [h00, if_false] at hk
          unfold sliceOk at hk
          split at hk
          · rename_i e hu
            split at hk
            · rename_i f hf
              have p1 := (evO_sound h hx hl).nils_inv
              have hbd := run_bounds (P := P) (w := w) (len := 0) (cap := 0) h true hlo hhi hi1 hj1 (by omega) (by omega) (by omega) (by omega)
              refine .value h hd he (v := .slice none 0 0) ?_ (.pure _ _ (.nils _)) (fun _ _ _ h => by simp at h)
              simp only [execOp, ho, Option.map_none, Sem.run_bind, p1, run_slice_slc hu hf hbd, Result.andThen_ok, Sem.run_pure]
              simp
            · cases hk
          · cases hk
        · cases he
      · cases he
    · rename_i id off n sz hl
      split at he
      · rename_i i j hi1 hj1
        split at he
        · rename_i hb
          obtain ⟨h0, h00, h1, h2, h3⟩ := hb
          subst h0
          simp only [h00, if_false] at hk
          unfold sliceOk at hk
          split at hk
          · rename_i e hu
            split at hk
            · rename_i f hf
              simp at hk
              obtain ⟨b, kk, cap, q1, q2, q3, q4, q5⟩ := (evO_sound h hx hl).sl_inv
              have hbd := run_bounds (P := P) (w := w) h true hlo hhi hi1 hj1 h1 h2 h3 q4
              have hrun : (execOp a.eval o).run P w = .ok (.value (.slice (if cap = i.toNat then some ⟨b, off, none⟩ else (some (⟨b, off, none⟩ : Addr)).map (·.add (i.toNat * f.size))) (j.toNat - i.toNat) (cap - i.toNat))) w := by
                simp only [execOp, ho, Option.map_none, Sem.run_bind, q5, run_slice_slc hu hf hbd, Result.andThen_ok, Sem.run_pure]
              split at he
              · rename_i hij
                exact .value h hd he hrun (.pure _ _ (.list_nil rfl (by omega))) (NotOwn.none _ _)
              · rename_i hij
                refine .value h hd he hrun ?_ (fun _ _ _ h => by simp at h)
                by_cases hc0 : cap = i.toNat
                · have hi0 : i = 0 := by omega
                  subst hi0
                  simp only [Int.toNat_zero] at hc0
                  subst hc0
                  simpa using VR.sl id off (j.toNat) szz b kk 0 q1 q2 q3 (by omega)
                · simp only [hc0, if_false, Option.map_some, addr_add, hk]
                  refine VR.sl id _ _ szz b kk (cap - i.toNat) q1 q2 ?_ (by omega)
                  rw [← q3, Nat.add_assoc, ← Nat.add_mul]; congr 2; omega
            · cases hk
          · cases hk
        · cases he
      · cases he
    · cases he
  · cases hop

theorem VRs.all_one {cs : List AV} {ws : List Value} (h : VRs g cs ws) (h1 : cs.all AV.one = true) : ∀ v ∈ ws, v.oneCell' = true := by
  induction ws generalizing cs with
  | nil => simp
  | cons v ws ih => cases h with
    | cons c cs _ _ hv hvs =>
      simp only [List.all_cons, Bool.and_eq_true] at h1
      intro u hu
      rcases List.mem_cons.1 hu with rfl | hu
      · cases hv with
        | pure _ _ hp => cases hp <;> first | rfl | simp [AV.one] at h1
        | own _ _ _ _ hp => cases hp <;> rfl
        | ptr => rfl
        | map => rfl
        | sl => rfl
        | nilc => rfl
        | fn => rfl
        | agg => simp [AV.one] at h1
        | tup => simp [AV.one] at h1
      · exact ih hvs h1.2 u hu

theorem VR.cells {x : AV} {v : Value} (h : VR g x v) (hx : x.cells.all AV.one = true) : VRs g x.cells v.cells.toList ∧ (∀ u ∈ v.cells.toList, u.oneCell' = true) := by
  by_cases hag : ∃ cs, x = .agg cs
  · obtain ⟨cs, rfl⟩ := hag
    obtain ⟨ws, rfl, p1, p2⟩ := h.agg_inv
    exact ⟨by simpa [AV.cells, Value.cells] using p1, by simpa [Value.cells] using p2⟩
  · have e : x.cells = [x] := by cases x <;> first | rfl | exact absurd ⟨_, rfl⟩ hag
    rw [e] at hx ⊢
    have hv : v.cells = #[v] := by
      cases h with
      | pure _ _ hp => cases hp <;> first | rfl | exact absurd ⟨_, rfl⟩ hag
      | own _ _ _ _ hp => cases hp <;> rfl
      | ptr => rfl
      | map => rfl
      | sl => rfl
      | nilc => rfl
      | fn => rfl
      | agg => exact absurd ⟨_, rfl⟩ hag
      | tup => rfl
    rw [hv]
    have h1 : VRs g [x] [v] := .cons _ _ _ _ h .nil
    exact ⟨h1, h1.all_one hx⟩

def chkMm (N : Nat) (o : Oper) (d : Nat) (mx : Bool) (x y : Opd) : Bool := dstIs N o d &&
  (match bcall o.op with | some (b, [x', y'], _) => chkOpd x' x && chkOpd y' y && (match b with | .max => mx | .min => !mx | _ => false) | _ => false)
theorem sim_mm {d : Nat} {mx : Bool} {x y : Opd} (h : Rel P gl N g s a w) (hc : chkMm N o d mx x y = true) (he : ev gl s (.mm d mx x y) = some s') : Sim1 P gl N o g a w s' := by
  simp only [chkMm, Bool.and_eq_true] at hc
  obtain ⟨hd, hop⟩ := hc
  split at hop
  · rename_i b x' y' ts ho
    obtain ⟨cst, hrun⟩ := bcall_run (o := o) ho rfl a.eval
    simp only [Bool.and_eq_true] at hop
    obtain ⟨⟨hx, hy⟩, hk⟩ := hop
    simp only [ev] at he
    split at he
    · rename_i k m k' n h1 h2
      have p1 := (evO_sound h hx h1).int_inv
      have p2 := (evO_sound h hy h2).int_inv
      refine .value h hd he (v := .int k (if mx = true then (if n > m then n else m) else (if n < m then n else m))) ?_ (.pure _ _ (.int _ _)) (notOwn_int _ _)
      rw [hrun]
      split at hk
      · subst hk; simp [builtin, p1, p2, Builtin.max_, Builtin.max2]
      · simp at hk; subst hk; simp [builtin, p1, p2, Builtin.min_, Builtin.min2]
      · cases hk
    · cases he
  · cases hop

def chkNilchk (N : Nat) (o : Oper) (d : Nat) (x : Opd) : Bool := dstIs N o d && (match o.op with | .nilCheck x' => chkOpd x' x | _ => false)
theorem sim_nilchk {d : Nat} {x : Opd} (h : Rel P gl N g s a w) (hc : chkNilchk N o d x = true) (he : ev gl s (.nilchk d x) = some s') : Sim1 P gl N o g a w s' := by
  simp only [chkNilchk, Bool.and_eq_true] at hc
  obtain ⟨hd, hop⟩ := hc
  split at hop
  · rename_i x' ho
    have hrun : ∀ b o', a.eval x' = ptrTo b o' → (execOp a.eval o).run P w = .ok (.value (ptrTo b o')) w := by
      intro b o' e; simp [execOp, ho, e, ptrTo]
    simp only [ev] at he
    split at he
    · rename_i n
      have hy : x' = .tmp n := by unfold chkOpd at hop; split at hop <;> simp_all
      subst hy
      split at he
      · rename_i cs hn
        obtain ⟨b, p1, p2⟩ := h.env _ _ hn
        split at he
        · rename_i hok
          simp at he; subst he
          exact .addr h hd hok hn p1 (hrun _ _ (by simp [Act.eval, p1]))
        · cases he
      · rename_i t off hn
        obtain ⟨⟨cs, hu⟩, b, p1, p2⟩ := h.env _ _ hn
        split at he
        · rename_i hok
          simp at he; subst he
          exact .addr h hd hok hu p2 (hrun _ _ (by simp [Act.eval, p1]))
        · cases he
      · rename_i id off hn
        obtain ⟨v, p1, p2, _⟩ := h.env _ _ hn
        obtain ⟨b, q1, q2⟩ := p2.ptr_inv
        exact .value h hd he (hrun _ _ (by simp [Act.eval, p1, q2])) (q2 ▸ p2) (notOwn_ptr _ _)
      · rename_i cs hn
        obtain ⟨v, p1, p2, _⟩ := h.env _ _ hn
        obtain ⟨b, off, q1, q2⟩ := p2.cptr_inv
        exact .value h hd he (hrun _ _ (by simp [Act.eval, p1, q1])) (q1 ▸ p2) (notOwn_cptr _)
      · cases he
    · cases he
  · cases hop

theorem notOwn_fn (f : Nat) (cs : List AV) : NotOwn (.fn f cs) := fun _ _ _ h => by simp at h
def chkMkfn (N : Nat) (o : Oper) (d f : Nat) (caps : List Opd) : Bool := dstIs N o d &&
  (match o.op with | .makeFunc (.func f') first caps' => f' == f && first.size == 0 && chkOpds caps'.toList caps | _ => false)
theorem sim_mkfn {d f : Nat} {caps : List Opd} (h : Rel P gl N g s a w) (hc : chkMkfn N o d f caps = true) (he : ev gl s (.mkfn d f caps) = some s') : Sim1 P gl N o g a w s' := by
  simp only [chkMkfn, Bool.and_eq_true] at hc
  obtain ⟨hd, hop⟩ := hc
  split at hop
  · rename_i f' first caps' ho
    simp only [Bool.and_eq_true, beq_iff_eq] at hop
    obtain ⟨⟨rfl, h0⟩, hcs⟩ := hop
    have h0' : first = #[] := Array.eq_empty_of_size_eq_zero h0
    subst h0'
    obtain ⟨vs, p1, p2⟩ := bind_some he
    split at p2
    · have q := (evOs_sound h hcs p1).noOwn
      refine .value h hd p2 (v := .func (.func f') #[] (caps'.toList.map a.eval).toArray) ?_ (.fn _ _ _ q) (notOwn_fn _ _)
      have e : (List.map a.eval caps'.toList).toArray = caps'.map a.eval := by apply Array.ext'; simp
      simp only [execOp, ho, Sem.run_bind, Instr.makeFunc, Sem.run_pure, Result.andThen_ok, e]
      simp
    · cases p2
  · cases hop
end
end AM
/-! The simulation of new boxes and objects, and of stores. -/
namespace AM
open Go
section
variable {P : Program} {gl : Glob} {N : Nat} {g g' : Gh} {s s' : St} {a : Act} {w w' : World} {o : Oper}

theorem cell_lt {b off : Nat} {v : Value} (h : w.cell? ⟨b, off, none⟩ = some v) : b < w.heap.size := by
  unfold World.cell? at h
  cases hb : w.heap[b]? with
  | none => simp [hb] at h
  | some x => exact (Array.getElem?_eq_some_iff.1 hb).1
theorem cell_alloc {b off : Nat} {v : Value} (x : Obj) (h : w.cell? ⟨b, off, none⟩ = some v) : (w.alloc x).cell? ⟨b, off, none⟩ = some v := by
  have hl := cell_lt h
  unfold World.cell? at h ⊢
  rw [heap_alloc_old w x b hl]; exact h

theorem alloc_size (w : World) (x : Obj) : (w.alloc x).heap.size = w.heap.size + 1 := by show (w.heap.push x).size = _; simp
def Gh.setO (g : Gh) (b : Nat) (ow : Owner) : Gh := { g with Ω := fun k => if k = b then ow else g.Ω k }
theorem Rel.gnone (h : Rel P gl N g s a w) (off : Nat) : g.γ w.heap.size off = none := by
  cases hh : g.γ w.heap.size off with
  | none => rfl
  | some v => have := cell_lt (h.gam _ _ _ hh); omega
theorem Rel.onone (h : Rel P gl N g s a w) : g.Ω w.heap.size = .none := by
  cases hh : g.Ω w.heap.size <;> first | rfl | (have := h.own w.heap.size (by rw [hh]; simp); omega)
/-- A new block for an owner. -/
theorem Rel.alloc (h : Rel P gl N g s a w) (x : Obj) (ow : Owner) :
    GLe g w (g.setO w.heap.size ow) (w.alloc x) ∧ Rel P gl N (g.setO w.heap.size ow) s a (w.alloc x) := by
  have hle : GhLe g (g.setO w.heap.size ow) := ⟨fun _ _ _ h => h, fun _ _ h => h⟩
  have hne : ∀ b, g.Ω b ≠ .none → b ≠ w.heap.size := fun b hb e => by subst e; exact hb h.onone
  have hsame : ∀ b, g.Ω b ≠ .none → (g.setO w.heap.size ow).Ω b = g.Ω b ∧ (w.alloc x).heap[b]? = w.heap[b]? ∧ ∀ o, (g.setO w.heap.size ow).γ b o = g.γ b o := fun b hb =>
    ⟨by simp [Gh.setO, hne b hb], heap_alloc_old w x b (h.own b hb), fun _ => rfl⟩
  refine ⟨⟨hle, fun b hb => ?_, by rw [alloc_size]; omega, rfl, rfl⟩, h.step .none (PosFree.none s) hle (fun b hb => hsame b hb.1) (fun b off v hv => cell_alloc x (h.gam b off v hv)) (fun b hb => ?_) h.rho⟩
  · obtain ⟨h1, h2, h3⟩ := hsame b (by rw [hb]; simp)
    exact ⟨h1.trans hb, h2, h3⟩
  · by_cases e : b = w.heap.size
    · rw [alloc_size]; omega
    · simp [Gh.setO, e] at hb; have := h.own b hb; rw [alloc_size]; omega

/-- A new block of cells is a box. -/
theorem BlkR.new {ow : Owner} {oc : Nat → Owner} {cs : List AV} {ws : List Value} {ty : TypeId} (hg : ∀ off, g.γ w.heap.size off = none) (hc : VRs g cs ws) (h1 : ∀ v ∈ ws, v.oneCell' = true)
    (hn : ∀ c ∈ cs, NotOwn c) : BlkR P (g.setO w.heap.size ow) (w.alloc (.cells ws.toArray ty)) w.heap.size ow oc cs := by
  refine ⟨ws.toArray, ty, heap_alloc_new w _, by simp [hc.get.1], by simp [Gh.setO], hg, fun i c hi => ?_⟩
  obtain ⟨v, p1, p2⟩ := hc.get.2 i c hi
  exact ⟨v, by simpa using p1, h1 v (List.mem_of_getElem? p1), p2.mono (⟨fun _ _ _ h => h, fun _ _ h => h⟩ : GhLe g (g.setO w.heap.size ow)), (hn c (List.mem_of_getElem? hi)).ownR⟩

def zeroOk (P : Program) (e : TypeId) (z : List AV) : Bool :=
  match P.info? e with
  | some i => (match i.zero with | some v => v.cells.size == z.length && (v.cells.toList.zip z).all fun (v, x) => const1 v x | none => false)
  | none => false
theorem zeroOk_spec {e : TypeId} {z : List AV} (h : zeroOk P e z = true) : ∃ i v, P.info? e = some i ∧ i.zero = some v ∧ VRs g z v.cells.toList ∧ (∀ u ∈ v.cells.toList, u.oneCell' = true) ∧ ∀ c ∈ z, NotOwn c := by
  unfold zeroOk at h
  split at h
  · rename_i i hi
    split at h
    · rename_i v hv
      simp only [Bool.and_eq_true, beq_iff_eq] at h
      obtain ⟨h1, h2⟩ := h
      have hp : ∀ (k : Nat) u c, v.cells.toList[k]? = some u → z[k]? = some c → PR g.γ c u ∧ u.oneCell' = true := fun k u c hu hc => const1_sound (zip_all (by simpa using h1) h2 k u c hu hc)
      refine ⟨i, v, hi, hv, .of_get (by simpa using h1) fun k c u hc hu => .pure _ _ (hp k u c hu hc).1, fun u hu => ?_, fun c hc => ?_⟩
      · obtain ⟨k, hk, hku⟩ := List.getElem_of_mem hu
        have hkl : k < z.length := by have : k < v.cells.toList.length := hk; simp at this; omega
        exact (hp k u z[k] (by rw [List.getElem?_eq_getElem hk, hku]) (by simp [hkl])).2
      · obtain ⟨k, hk, hkc⟩ := List.getElem_of_mem hc
        have hkl : k < v.cells.toList.length := by simp; omega
        have := (hp k v.cells.toList[k] c (List.getElem?_eq_getElem hkl) (by rw [List.getElem?_eq_getElem hk, hkc])).1
        intro e sz xs e'
        subst e'; cases this
    · cases h
  · cases h

def chkAlloc (P : Program) (N : Nat) (o : Oper) (d : Nat) (z : List AV) : Bool := dstIs N o d && (match o.op with | .alloc e => zeroOk P e z | _ => false)
theorem run_alloc {e : TypeId} {i : TypeInfo} {v : Value} (hi : P.info? e = some i) (hz : i.zero = some v) : (Instr.alloc e true (.tuple #[])).run P w = .ok (ptrTo w.heap.size 0) (w.alloc (.cells v.cells e)) := by
  simp [Instr.alloc, zeroValue, typeInfo, hi, hz, newVar, newRow, newObj, Sem.run, ptrTo]
theorem sim_alloc {d : Nat} {z : List AV} (h : Rel P gl N g s a w) (hc : chkAlloc P N o d z = true) (he : ev gl s (.alloc d z) = some s') : Sim1 P gl N o g a w s' := by
  simp only [chkAlloc, Bool.and_eq_true] at hc
  obtain ⟨hd, hop⟩ := hc
  split at hop
  · rename_i e ho
    obtain ⟨i, v, p1, p2, p3, p4, p5⟩ := zeroOk_spec (g := g) hop
    simp only [ev] at he
    simp only [dstIs, Bool.and_eq_true, beq_iff_eq, decide_eq_true_eq] at hd
    obtain ⟨q1, q2⟩ := h.alloc (.cells v.cells e) (.bx d)
    refine ⟨ptrTo w.heap.size 0, w.alloc (.cells v.cells e), g.setO w.heap.size (.bx d), .inl ?_, q1, ?_⟩
    · simp only [execOp, ho, Sem.run_bind, run_alloc p1 p2, Result.andThen_ok, Sem.run_pure]
    · rw [hd.1]
      refine q2.putB he hd.2 ?_
      have := BlkR.new (P := P) (ow := .bx d) (oc := .bc d) (ty := e) h.gnone p3 p4 p5
      simpa using this
  · cases hop
def chkBox (N : Nat) (o : Oper) (d : Nat) (x : Opd) : Bool := dstIs N o d && (match o.op with | .box _ x' => chkOpd x' x | _ => false)
theorem run_box (e : TypeId) (v : Value) : (Instr.box e v).run P w = .ok (ptrTo w.heap.size 0) (w.alloc (.cells v.cells e)) := by
  simp [Instr.box, newVar, newRow, newObj, Sem.run, ptrTo]
theorem notOwn_map {cs : List AV} : ∀ c ∈ cs.map AV.noOwn, NotOwn c := fun c hc => by
  obtain ⟨x, _, rfl⟩ := List.mem_map.1 hc; exact NotOwn.noOwn x
theorem sim_box {d : Nat} {x : Opd} (h : Rel P gl N g s a w) (hc : chkBox N o d x = true) (he : ev gl s (.box d x) = some s') : Sim1 P gl N o g a w s' := by
  simp only [chkBox, Bool.and_eq_true] at hc
  obtain ⟨hd, hop⟩ := hc
  split at hop
  · rename_i e x' ho
    obtain ⟨u, h1, h2⟩ := bind_some he
    split at h2
    · rename_i hone
      simp only [dstIs, Bool.and_eq_true, beq_iff_eq, decide_eq_true_eq] at hd
      obtain ⟨p1, p2⟩ := (evO_sound h hop h1).cells hone
      obtain ⟨q1, q2⟩ := h.alloc (.cells (a.eval x').cells e) (.bx d)
      refine ⟨ptrTo w.heap.size 0, w.alloc (.cells (a.eval x').cells e), g.setO w.heap.size (.bx d), .inl ?_, q1, ?_⟩
      · simp only [execOp, ho, Sem.run_bind, run_box, Result.andThen_ok, Sem.run_pure]
      · rw [hd.1]
        refine q2.putB h2 hd.2 ?_
        have := BlkR.new (P := P) (ow := .bx d) (oc := .bc d) (ty := e) h.gnone p1.noOwn p2 notOwn_map
        simpa using this
    · cases h2
  · cases hop

/-- A new object of the heap. -/
theorem Rel.allocH (h : Rel P gl N g s a w) {cs : List AV} {ws : List Value} (ty : TypeId) (hc : VRs g cs ws) (h1 : ∀ v ∈ ws, v.oneCell' = true) (hn : ∀ c ∈ cs, NotOwn c) :
    ∃ g', GLe g w g' (w.alloc (.cells ws.toArray ty)) ∧ Rel P gl N g' { s with heap := s.heap ++ [AObj.cells cs] } a (w.alloc (.cells ws.toArray ty)) ∧ g'.ρ s.heap.length = some w.heap.size := by
  obtain ⟨q1, q2⟩ := h.alloc (.cells ws.toArray ty) (.ob s.heap.length)
  have hb := BlkR.new (P := P) (ow := .ob s.heap.length) (oc := .oc s.heap.length) (ty := ty) h.gnone hc h1 hn
  let g2 : Gh := { g.setO w.heap.size (.ob s.heap.length) with ρ := fun id => if id = s.heap.length then some w.heap.size else g.ρ id }
  have hle : GhLe (g.setO w.heap.size (.ob s.heap.length)) g2 := ⟨fun _ _ _ h => h, fun id b hid => by
    have := h.rho id b hid
    simp [g2, show id ≠ s.heap.length by omega]; exact hid⟩
  have hk : ∀ K, Kept (g.setO w.heap.size (.ob s.heap.length)) (w.alloc (.cells ws.toArray ty)) g2 (w.alloc (.cells ws.toArray ty)) K := fun K b _ => ⟨rfl, rfl, fun _ => rfl⟩
  refine ⟨g2, q1.trans ⟨hle, fun b hb => ⟨hb, rfl, fun _ => rfl⟩, Nat.le_refl _, rfl, rfl⟩, ?_, by simp [g2]⟩
  refine ⟨q2.sorted, q2.size, q2.defers, fun t e he => (q2.env t e he).kept hle (hk fun _ => True) trivial trivial (fun _ => trivial), fun id ob hob => ?_, q2.gam, q2.own, q2.glob, fun id b hid => ?_⟩
  · simp only at hob
    rcases Nat.lt_trichotomy id s.heap.length with hlt | rfl | hgt
    · rw [List.getElem?_append_left hlt] at hob
      exact (q2.heap id ob hob).kept hle (hk fun _ => True) (fun _ => trivial) (fun _ => trivial)
    · simp at hob; subst hob
      exact ⟨w.heap.size, by simp [g2], hb.kept hle (hk fun _ => True) trivial (fun _ => trivial)⟩
    · rw [List.getElem?_eq_none (by simp; omega)] at hob; cases hob
  · simp only [List.length_append, List.length_singleton]
    by_cases e : id = s.heap.length
    · omega
    · simp [g2, e] at hid; have := h.rho id b hid; omega
def chkAllocH (P : Program) (N : Nat) (o : Oper) (d : Nat) (z : List AV) : Bool := chkAlloc P N o d z
theorem sim_allocH {d : Nat} {z : List AV} (h : Rel P gl N g s a w) (hc : chkAllocH P N o d z = true) (he : ev gl s (.allocH d z) = some s') : Sim1 P gl N o g a w s' := by
  simp only [chkAllocH, chkAlloc, Bool.and_eq_true] at hc
  obtain ⟨hd, hop⟩ := hc
  split at hop
  · rename_i e ho
    obtain ⟨i, v, p1, p2, p3, p4, p5⟩ := zeroOk_spec (g := g) hop
    simp only [ev] at he
    simp only [dstIs, Bool.and_eq_true, beq_iff_eq, decide_eq_true_eq] at hd
    obtain ⟨g', q1, q2, q3⟩ := h.allocH e p3 p4 p5
    refine ⟨ptrTo w.heap.size 0, w.alloc (.cells v.cells e), g', .inl ?_, by simpa using q1, ?_⟩
    · simp only [execOp, ho, Sem.run_bind, run_alloc p1 p2, Result.andThen_ok, Sem.run_pure]
    · rw [hd.1]
      have := q2.put he hd.2 (.ptr _ 0 _ q3) (notOwn_ptr _ _).ownR
      simpa [ptrTo] using this
  · cases hop
def chkBoxH (N : Nat) (o : Oper) (d : Nat) (x : Opd) : Bool := chkBox N o d x
theorem sim_boxH {d : Nat} {x : Opd} (h : Rel P gl N g s a w) (hc : chkBoxH N o d x = true) (he : ev gl s (.boxH d x) = some s') : Sim1 P gl N o g a w s' := by
  simp only [chkBoxH, chkBox, Bool.and_eq_true] at hc
  obtain ⟨hd, hop⟩ := hc
  split at hop
  · rename_i e x' ho
    obtain ⟨u, h1, h2⟩ := bind_some he
    split at h2
    · rename_i hone
      simp only [dstIs, Bool.and_eq_true, beq_iff_eq, decide_eq_true_eq] at hd
      obtain ⟨p1, p2⟩ := (evO_sound h hop h1).cells hone
      obtain ⟨g', q1, q2, q3⟩ := h.allocH e p1.noOwn p2 notOwn_map
      refine ⟨ptrTo w.heap.size 0, w.alloc (.cells (a.eval x').cells e), g', .inl ?_, by simpa using q1, ?_⟩
      · simp only [execOp, ho, Sem.run_bind, run_box, Result.andThen_ok, Sem.run_pure]
      · rw [hd.1]
        have := q2.put h2 hd.2 (.ptr _ 0 _ q3) (notOwn_ptr _ _).ownR
        simpa [ptrTo] using this
    · cases h2
  · cases hop
end
end AM
/-! The simulation of stores, of loads that take, of literals and structs. -/
namespace AM
open Go
section
variable {P : Program} {gl : Glob} {N : Nat} {g g' : Gh} {s s' : St} {a : Act} {w w' : World} {o : Oper}

theorem setCells_eq : ∀ (vs cs : List AV) (off : Nat), off + vs.length ≤ cs.length → setCells cs off vs = cs.take off ++ vs ++ cs.drop (off + vs.length)
  | [], cs, off, _ => by simp [setCells]
  | v :: r, cs, off, h => by
    simp only [List.length_cons] at h
    rw [setCells, setCells_eq r (cs.set off v) (off + 1) (by simp; omega)]
    have hlt : off < cs.length := by omega
    apply List.ext_getElem?
    intro i
    simp only [List.getElem?_append, List.length_append, List.length_take, List.length_set, List.length_cons, List.getElem?_take, List.getElem?_set, List.getElem?_drop]
    rcases Nat.lt_trichotomy i off with hi | rfl | hi
    · simp [show i < min (off + 1) cs.length by omega, show i < off + 1 by omega, show i < min off cs.length by omega, show i < off by omega, show ¬ off = i by omega, show i < min (off + 1) cs.length + r.length by omega, show i < min off cs.length + (r.length + 1) by omega]
    · simp [hlt, show i < min (i + 1) cs.length by omega, show ¬ i < min i cs.length by omega, show i < min (i + 1) cs.length + r.length by omega, show i < min i cs.length + (r.length + 1) by omega, show i - min i cs.length = 0 by omega]
    · by_cases h2 : i < off + 1 + r.length
      · simp [show ¬ i < min (off + 1) cs.length by omega, show ¬ i < min off cs.length by omega, show i < min (off + 1) cs.length + r.length by omega, show i < min off cs.length + (r.length + 1) by omega,
          show i - min off cs.length = (i - min (off + 1) cs.length) + 1 by omega]
      · simp [show ¬ i < min (off + 1) cs.length + r.length by omega, show ¬ i < min off cs.length + (r.length + 1) by omega,
          show ¬ off = off + (r.length + 1) + (i - (min off cs.length + (r.length + 1))) by omega,
          show off + 1 + r.length + (i - (min (off + 1) cs.length + r.length)) = off + (r.length + 1) + (i - (min off cs.length + (r.length + 1))) by omega]

theorem splice_get {α : Type} (l mid : List α) (off i : Nat) (h : off + mid.length ≤ l.length) : (l.take off ++ mid ++ l.drop (off + mid.length))[i]? = if i < off then l[i]? else if i < off + mid.length then mid[i - off]? else l[i]? := by
  have e1 : (l.take off).length = off := by simp; omega
  by_cases h1 : i < off
  · rw [List.append_assoc, List.getElem?_append_left (by omega), List.getElem?_take]; simp [h1]
  · by_cases h2 : i < off + mid.length
    · rw [List.append_assoc, List.getElem?_append_right (by omega), e1, List.getElem?_append_left (by omega)]; simp [h1, h2]
    · rw [List.getElem?_append_right (by simp; omega), List.getElem?_drop]
      simp only [h1, h2, if_false]
      congr 1; simp; omega

/-- The cells of a block after a write. -/
theorem BlkR.write {b : Nat} {ow : Owner} {oc : Nat → Owner} {cs vs : List AV} {us : List Value} {off : Nat} (h : BlkR P g w b ow oc cs) (hv : VRs g vs us) (h1 : ∀ v ∈ us, v.oneCell' = true)
    (hb : off + vs.length ≤ cs.length) (ho : ∀ (i : Nat) c u, vs[i]? = some c → us[i]? = some u → OwnR P g w (oc (off + i)) c u) (hne : ∀ i, oc i ≠ ow) :
    ∃ arr ty, w.heap[b]? = some (.cells arr ty (0, 0)) ∧ off + us.length ≤ arr.size ∧
      BlkR P g (w.setRow b (arr.toList.take off ++ us ++ arr.toList.drop (off + us.length)).toArray) b ow oc (setCells cs off vs) := by
  obtain ⟨arr, ty, q1, q2, q3, q4, q5⟩ := h
  have hl := hv.get.1
  have hsz : off + us.length ≤ arr.toList.length := by simp; omega
  refine ⟨arr, ty, q1, by omega, _, ty, setRow_heap w b arr _ ty (0, 0) q1, ?_, q3, q4, fun i c hc => ?_⟩
  · rw [setCells_eq _ _ _ hb]; simp; omega
  · rw [setCells_eq _ _ _ hb, splice_get _ _ _ _ hb, ← hl] at hc
    have hown : ∀ {i : Nat} {c : AV} {v : Value}, OwnR P g w (oc i) c v → OwnR P g (w.setRow b (arr.toList.take off ++ us ++ arr.toList.drop (off + us.length)).toArray) (oc i) c v := by
      intro i c v hh
      refine hh.kept (K := fun o => o ≠ ow) ⟨fun _ _ _ h => h, fun _ _ h => h⟩ (fun k hk => ⟨rfl, ?_, fun _ => rfl⟩) (hne i)
      exact setRow_other w b k _ (fun e => hk (by rw [e, q3]))
    rw [List.getElem?_toArray, splice_get _ _ _ _ hsz]
    by_cases hi1 : i < off
    · simp only [hi1, if_true] at hc ⊢
      obtain ⟨v, r1, r2, r3, r4⟩ := q5 i c hc
      exact ⟨v, by simpa using r1, r2, r3, hown r4⟩
    · by_cases hi2 : i < off + us.length
      · simp only [hi1, hi2, if_true, if_false] at hc ⊢
        obtain ⟨u, r1, r2⟩ := hv.get.2 _ _ hc
        refine ⟨u, r1, h1 u (List.mem_of_getElem? r1), r2, ?_⟩
        have := hown (ho _ _ _ hc r1)
        rwa [show off + (i - off) = i by omega] at this
      · simp only [hi1, hi2, if_false] at hc ⊢
        obtain ⟨v, r1, r2, r3, r4⟩ := q5 i c hc
        exact ⟨v, by simpa using r1, r2, r3, hown r4⟩

theorem setRow_gle {b : Nat} {arr : Array Value} (hb : g.Ω b ≠ .outer) : GLe g w g (w.setRow b arr) :=
  ⟨⟨fun _ _ _ h => h, fun _ _ h => h⟩, fun k hk => ⟨hk, setRow_other w b k _ (fun e => hb (by rw [← e, hk])), fun _ => rfl⟩, by simp, rfl, rfl⟩

/-- Cells written at an address. -/
theorem wrAt_sound (h : Rel P gl N g s a w) {v : Value} {p : Adr} (hp : AdrR P g s a w v p) {vs : List AV} {us : List Value} (hv : VRs g vs us) (h1 : ∀ v ∈ us, v.oneCell' = true)
    (ho : ∀ (i : Nat) c u, vs[i]? = some c → us[i]? = some u → match p with | .bx t off => OwnR P g w (.bc t (off + i)) c u | .hp id off => OwnR P g w (.oc id (off + i)) c u | .im _ => False)
    (hw : wrAt s vs p = some s') : ∃ b off w', v = ptrTo b off ∧ (storeCells ⟨b, off, none⟩ us).run P w = .ok () w' ∧ GLe g w g w' ∧ Rel P gl N g s' a w' := by
  have hgam : ∀ (b : Nat) (arr : Array Value), (∀ off, g.γ b off = none) → ∀ k off v, g.γ k off = some v → (w.setRow b arr).cell? ⟨k, off, none⟩ = some v := by
    intro b arr hb k off v hk
    rw [cell_setRow_other w b arr _ (fun e => by simp only at e; rw [e, hb] at hk; cases hk)]
    exact h.gam _ _ _ hk
  cases p with
  | bx t off =>
    obtain ⟨b, cs, p1, p2, p3, p4⟩ := hp
    simp only [wrAt, p1] at hw
    split at hw
    · rename_i hb
      simp at hw; subst hw
      have hfull := p4
      obtain ⟨arr, ty, q1, q2, q3⟩ := p4.write hv h1 hb ho (fun i => by simp)
      obtain ⟨_, _, _, _, r3, r4, _⟩ := hfull
      have hrun := run_storeCells_at P b off ty us 0 arr w q1 (by simpa using q2) h1
      simp only [Nat.add_zero] at hrun
      refine ⟨b, off, _, p3, hrun, setRow_gle (by rw [r3]; simp), Env.Sorted.ins h.sorted t _, h.size, h.defers, fun u e he => ?_, fun id ob hob => ?_, hgam b _ r4, fun k hk => by simpa using h.own k hk, h.glob, h.rho⟩
      · simp only at he ⊢
        rw [Env.get_ins] at he
        split at he
        · rename_i ht; subst ht; simp at he; subst he
          exact ⟨b, p2, q3⟩
        · rename_i ht
          have hk : Kept g w g (w.setRow b (arr.toList.take off ++ us ++ arr.toList.drop (off + us.length)).toArray) fun o => o ≠ .bx t :=
            fun k hk => ⟨rfl, setRow_other w b k _ (fun e => hk (by rw [e, r3])), fun _ => rfl⟩
          have he' := (h.env u e he).kept ⟨fun _ _ _ h => h, fun _ _ h => h⟩ hk (by simp) (by simp [ht]) (by simp)
          cases e with
          | v x => exact he'
          | b cs => exact he'
          | a u' off' =>
            obtain ⟨⟨cs', hu⟩, hr⟩ := he'
            refine ⟨?_, hr⟩
            rw [Env.get_ins]
            by_cases e : u' = t
            · simp [e]
            · simp [e, hu]
      · have hk : Kept g w g (w.setRow b (arr.toList.take off ++ us ++ arr.toList.drop (off + us.length)).toArray) fun o => o ≠ .bx t :=
          fun k hk => ⟨rfl, setRow_other w b k _ (fun e => hk (by rw [e, r3])), fun _ => rfl⟩
        exact (h.heap id ob hob).kept ⟨fun _ _ _ h => h, fun _ _ h => h⟩ hk (by simp) (by simp)
    · cases hw
  | hp id off =>
    obtain ⟨b, p1, p2⟩ := hp
    simp only [wrAt] at hw
    split at hw
    · rename_i cs hid
      obtain ⟨b', m1, m2⟩ := h.heap _ _ hid
      rw [p1] at m1; simp at m1; subst m1
      split at hw
      · rename_i hb
        simp at hw; subst hw
        have hfull := m2
        obtain ⟨arr, ty, q1, q2, q3⟩ := m2.write hv h1 hb ho (fun i => by simp)
        obtain ⟨_, _, _, _, r3, r4, _⟩ := hfull
        have hrun := run_storeCells_at P b off ty us 0 arr w q1 (by simpa using q2) h1
        simp only [Nat.add_zero] at hrun
        have hk : Kept g w g (w.setRow b (arr.toList.take off ++ us ++ arr.toList.drop (off + us.length)).toArray) fun o => o ≠ .ob id :=
          fun k hk => ⟨rfl, setRow_other w b k _ (fun e => hk (by rw [e, r3])), fun _ => rfl⟩
        refine ⟨b, off, _, p2, hrun, setRow_gle (by rw [r3]; simp), h.sorted, h.size, h.defers,
          fun u e he => (h.env u e he).kept ⟨fun _ _ _ h => h, fun _ _ h => h⟩ hk (by simp) (by simp) (by simp), fun id' ob hob => ?_, hgam b _ r4, fun k hk => by simpa using h.own k hk, h.glob,
          fun i b hi => by simpa using h.rho i b hi⟩
        simp only at hob
        rw [List.getElem?_set] at hob
        split at hob
        · rename_i e; subst e
          split at hob
          · simp at hob; subst hob
            exact ⟨b, p1, q3⟩
          · cases hob
        · rename_i e
          exact (h.heap id' ob hob).beside ⟨fun _ _ _ h => h, fun _ _ h => h⟩ hk (fun h => e h.symm) p1 (by simp [q1]) (by simp) (by simp)
      · cases hw
    · rename_i e0 cs hid
      obtain ⟨b', kk, m1, m1', m2, ⟨arr0, m3, m4⟩, m5⟩ := h.heap _ _ hid
      rw [p1] at m1; simp at m1; subst m1
      split at hw
      · rename_i hb
        simp at hw; subst hw
        have hfull := m2
        obtain ⟨arr, ty, q1, q2, q3⟩ := m2.write hv h1 hb ho (fun i => by simp)
        obtain ⟨_, _, _, _, r3, r4, _⟩ := hfull
        have hrun := run_storeCells_at P b off ty us 0 arr w q1 (by simpa using q2) h1
        simp only [Nat.add_zero] at hrun
        have hk : Kept g w g (w.setRow b (arr.toList.take off ++ us ++ arr.toList.drop (off + us.length)).toArray) fun o => o ≠ .ob id :=
          fun k hk => ⟨rfl, setRow_other w b k _ (fun e => hk (by rw [e, r3])), fun _ => rfl⟩
        refine ⟨b, off, _, p2, hrun, setRow_gle (by rw [r3]; simp), h.sorted, h.size, h.defers,
          fun u e he => (h.env u e he).kept ⟨fun _ _ _ h => h, fun _ _ h => h⟩ hk (by simp) (by simp) (by simp), fun id' ob hob => ?_, hgam b _ r4, fun k hk => by simpa using h.own k hk, h.glob,
          fun i b hi => by simpa using h.rho i b hi⟩
        simp only at hob
        rw [List.getElem?_set] at hob
        split at hob
        · rename_i e; subst e
          split at hob
          · simp at hob; subst hob
            rw [m3] at q1; simp at q1; obtain ⟨rfl, rfl⟩ := q1
            refine ⟨b, kk, p1, m1', q3, ⟨_, setRow_heap w b arr0 _ e0 (0, 0) m3, ?_⟩, m5⟩
            rw [← m4]; simp; omega
          · cases hob
        · rename_i e
          exact (h.heap id' ob hob).beside ⟨fun _ _ _ h => h, fun _ _ h => h⟩ hk (fun h => e h.symm) p1 (by simp [q1]) (by simp) (by simp)
      · cases hw
    · cases hw
  | im cs => simp [wrAt] at hw

def chkSt (P : Program) (o : Oper) (n : Nat) (x v : Opd) : Bool := o.dst == none &&
  (match o.op with | .store t x' v' => chkOpd x' x && chkOpd v' v && (match P.info? t with | some i => i.size == n | none => false) | _ => false)
theorem run_storeAt {t : TypeId} {i : TypeInfo} {b off : Nat} {u : Value} (hi : P.info? t = some i) (hn : u.cells.size = i.size) (hr : (storeCells ⟨b, off, none⟩ u.cells.toList).run P w = .ok () w') :
    (Instr.storeAt t (ptrTo b off) u).run P w = .ok () w' := by
  simp [Instr.storeAt, Instr.sureAddr, ptrTo, storeVar, Go.sizeOf, typeInfo, hi, hn, hr]
theorem sim_st {n : Nat} {x v : Opd} (h : Rel P gl N g s a w) (hc : chkSt P o n x v = true) (he : ev gl s (.st n x v) = some s') : Sim1 P gl N o g a w s' := by
  simp only [chkSt, Bool.and_eq_true, beq_iff_eq] at hc
  obtain ⟨hd, hop⟩ := hc
  split at hop
  · rename_i t x' v' ho
    simp only [Bool.and_eq_true] at hop
    obtain ⟨⟨hx, hv⟩, hk⟩ := hop
    split at hk
    · rename_i i hi
      simp at hk
      obtain ⟨p, e1, he⟩ := bind_some he
      obtain ⟨u, e2, he⟩ := bind_some he
      split at he
      · rename_i hb
        obtain ⟨hb1, hb2⟩ := hb
        obtain ⟨q1, q2⟩ := (evO_sound h hv e2).cells hb2
        obtain ⟨b, off, w', r1, r2, r3, r4⟩ := wrAt_sound h (adr_sound h hx e1) q1.noOwn q2 (fun i c u hc hu => by
          have := notOwn_map c (List.mem_of_getElem? hc)
          cases p with
          | bx t off => exact this.ownR
          | hp id off => exact this.ownR
          | im cs => simp [wrAt] at he) he
        have hn : (a.eval v').cells.size = i.size := by have := q1.get.1; simp at this; omega
        refine ⟨undef, w', g, .inr ⟨?_, rfl⟩, r3, ?_⟩
        · simp only [execOp, ho, Sem.run_bind, r1, run_storeAt hi hn r2, Result.andThen_ok, Sem.run_pure]
        · rw [hd]; exact r4
      · cases he
    · cases hk
  · cases hop

theorem AdrR.mono {v : Value} {p : Adr} (h : AdrR P g s a w v p) (h' : Rel P gl N g' s' a w') (hg : GhLe g g') (he : ∀ t cs, s.env.get t = some (.b cs) → s'.env.get t = some (.b cs)) : AdrR P g' s' a w' v p := by
  cases p with
  | bx t off =>
    obtain ⟨b, cs, p1, p2, p3, p4⟩ := h
    obtain ⟨b', q1, q2⟩ := h'.env _ _ (he _ _ p1)
    rw [p2] at q1; simp [ptrTo] at q1; subst q1
    exact ⟨b, cs, he _ _ p1, p2, p3, q2⟩
  | hp id off => obtain ⟨b, p1, p2⟩ := h; exact ⟨b, hg.ρ _ _ p1, p2⟩
  | im cs => obtain ⟨b, off, p1, p2⟩ := h; exact ⟨b, off, p1, p2.mono hg.γ⟩

/-- A store that hands over what a temporary owns. -/
theorem sim_stt {x : Opd} {v : Nat} (h : Rel P gl N g s a w) (hc : chkSt P o 1 x (.t v) = true) (he : ev gl s (.stt x v) = some s') : Sim1 P gl N o g a w s' := by
  simp only [chkSt, Bool.and_eq_true, beq_iff_eq] at hc
  obtain ⟨hd, hop⟩ := hc
  split at hop
  · rename_i t x' v' ho
    simp only [Bool.and_eq_true] at hop
    obtain ⟨⟨hx, hv⟩, hk⟩ := hop
    have hv' : v' = .tmp v := by unfold chkOpd at hv; split at hv <;> simp_all
    subst hv'
    split at hk
    · rename_i i hi
      simp at hk
      obtain ⟨p, e1, he⟩ := bind_some he
      split at he
      · rename_i e sz xs hvx
        obtain ⟨s1, e2, he⟩ := bind_some he
        obtain ⟨h3, h4⟩ := h.strip hvx
        rw [h3] at e2; simp at e2; subst e2
        obtain ⟨u, p1, p2, p3⟩ := h.env _ _ hvx
        have hfree : PosFree { s with env := s.env.ins v (.v (.list none sz xs)) } (.var v) :=
          ⟨fun t z ht hz => by simp at ht; subst ht; simp only [Env.get_ins] at hz; simp at hz; subst hz; exact NotOwn.none _ _, by simp, by simp, by simp, by simp, by simp⟩
        -- the owner that the address names
        have hpass : ∀ y : Owner, y ≠ .none → ∃ g', GLe g w g' w ∧ Rel P gl N g' { s with env := s.env.ins v (.v (.list none sz xs)) } a w ∧ OwnR P g' w y (.list (some e) sz xs) u := by
          intro y _
          cases hb : u.ownBlock with
          | none => exact ⟨g, GLe.refl _ _, h4, p3.free hb⟩
          | some b =>
            obtain ⟨i', z, vs, m1, m2, m3, m4, m5, m6, m6', m7, m8⟩ := p3 e sz xs rfl
            obtain ⟨n1, n2⟩ := h4.pass (.var v) y hfree (by simp) (m8 b hb).1 (by simp)
            exact ⟨_, n1, n2, p3.pass b hb⟩
        have hcell : u.cells.size = 1 ∧ u.cells.toList = [u] ∧ u.oneCell' = true := by
          obtain ⟨base, cap, rfl, _⟩ := p2.list_inv
          exact ⟨rfl, rfl, rfl⟩
        have hkeep : ∀ t cs, s.env.get t = some (.b cs) → ({ s with env := s.env.ins v (.v (.list none sz xs)) } : St).env.get t = some (.b cs) := by
          intro t cs ht
          simp only [Env.get_ins]
          have : t ≠ v := by rintro rfl; rw [hvx] at ht; simp at ht
          simp [this, ht]
        let y : Owner := match p with | .bx t off => .bc t off | .hp id off => .oc id off | .im _ => .junk
        obtain ⟨g', n1, n2, n3⟩ := hpass y (by cases p <;> simp [y])
        have hadr := (adr_sound h hx e1).mono n2 n1.toGhLe hkeep
        have hvr : VRs g' [.list (some e) sz xs] [u] := .cons _ _ _ _ (p2.mono n1.toGhLe) .nil
        obtain ⟨b, off, w', r1, r2, r3, r4⟩ := wrAt_sound n2 hadr hvr (by simp [hcell.2.2]) (fun i c u' hc hu => by
          cases i with
          | zero =>
            simp at hc hu; subst hc hu
            cases p with
            | bx t off => simpa [y] using n3
            | hp id off => simpa [y] using n3
            | im cs => simp [wrAt] at he
          | succ i => simp at hc) he
        refine ⟨undef, w', g', .inr ⟨?_, rfl⟩, n1.trans r3, ?_⟩
        · have hev : a.eval (.tmp v) = u := by simp [Act.eval, p1]
          simp only [execOp, ho, Sem.run_bind, r1, hev, run_storeAt hi (by rw [hcell.1, hk]) (by rw [hcell.2.1]; exact r2), Result.andThen_ok, Sem.run_pure]
        · rw [hd]; exact r4
      · cases he
    · cases hk
  · cases hop
end
end AM
/-! The simulation of loads that take, of literals, structs, arrays' slices, made slices. -/
namespace AM
open Go
section
variable {P : Program} {gl : Glob} {N : Nat} {g g' : Gh} {s s' : St} {a : Act} {w w' : World} {o : Oper}

theorem BlkR.strip {b : Nat} {ow : Owner} {oc : Nat → Owner} {cs : List AV} {off e sz : Nat} {xs : List AV} (h : BlkR P g w b ow oc cs) (hc : cs[off]? = some (.list (some e) sz xs)) :
    BlkR P g w b ow oc (cs.set off (.list none sz xs)) ∧ ∃ v, w.cell? ⟨b, off, none⟩ = some v ∧ VR g (.list (some e) sz xs) v ∧ OwnR P g w (oc off) (.list (some e) sz xs) v := by
  obtain ⟨arr, ty, q1, q2, q3, q4, q5⟩ := h
  obtain ⟨v, r1, r2, r3, r4⟩ := q5 off _ hc
  refine ⟨⟨arr, ty, q1, by simpa using q2, q3, q4, fun i c hi => ?_⟩, v, by rw [cell_of_row w b off arr ty (0, 0) q1]; exact r1, r3, r4⟩
  rw [List.getElem?_set] at hi
  split at hi
  · rename_i e; subst e
    split at hi
    · simp at hi; subst hi
      exact ⟨v, r1, r2, r3.noOwn, (NotOwn.none _ _).ownR⟩
    · cases hi
  · exact q5 i c hi

theorem getElem_of_rd {cs : List AV} {off : Nat} {x : AV} (e : (cs.drop off).take 1 = [x]) : cs[off]? = some x := by
  have : ((cs.drop off).take 1)[0]? = some x := by rw [e]; rfl
  simpa [List.getElem?_take, List.getElem?_drop] using this

def chkLdt (P : Program) (N : Nat) (o : Oper) (d : Nat) (x : Opd) (e sz : Nat) : Bool := chkLd P N o d x 1 false && okElem P e sz
theorem sim_ldt {d : Nat} {x : Opd} {e0 sz0 : Nat} (h : Rel P gl N g s a w) (hc : chkLdt P N o d x e0 sz0 = true) (he : ev gl s (.ldt d x e0 sz0) = some s') : Sim1 P gl N o g a w s' := by
  simp only [chkLdt, chkLd, Bool.and_eq_true] at hc
  obtain ⟨⟨hd, hop⟩, hok⟩ := hc
  split at hop
  · rename_i t x' ho
    simp only [Bool.and_eq_true] at hop
    obtain ⟨⟨hx, hsz⟩, hk⟩ := hop
    have hrun : ∀ b off v, a.eval x' = ptrTo b off → w.cell? ⟨b, off, none⟩ = some v → (execOp a.eval o).run P w = .ok (.value v) w := by
      intro b off v hv hcell
      simp only [execOp, ho, Sem.run_bind, hv]
      split at hk
      · simp at hk
      · simp at hk
      · rename_i dsc hd1 hd2 hu'
        rw [run_load_one hu' ⟨fun fs e => hd1 fs e, fun n e e' => hd2 n e e'⟩ hcell]; rfl
      · cases hk
    have hd' := hd
    simp only [dstIs, Bool.and_eq_true, beq_iff_eq, decide_eq_true_eq] at hd'
    simp only [ev] at he
    obtain ⟨p, h1, he⟩ := bind_some he
    obtain ⟨cs, h2, he⟩ := bind_some he
    split at he
    · rename_i e sz xs
      obtain ⟨s1, h3, h4⟩ := bind_some he
      have hadr := adr_sound h hx h1
      cases p with
      | bx u off =>
        obtain ⟨b, cs', p1, p2, p3, p4⟩ := hadr
        simp only [rdAt, p1] at h2
        simp only [wrAt, p1] at h3
        split at h2
        · rename_i hb
          simp at h2
          rw [if_pos (by simpa using hb)] at h3
          simp at h3; subst h3
          have hcs := getElem_of_rd h2
          obtain ⟨q1, v, q2, q3, q4⟩ := p4.strip hcs
          have hset : setCells cs' off [.list none sz xs] = cs'.set off (.list none sz xs) := rfl
          have h5 : Rel P gl N g { s with env := s.env.ins u (.b (setCells cs' off [.list none sz xs])) } a w := by
            refine ⟨Env.Sorted.ins h.sorted u _, h.size, h.defers, fun t y hy => ?_, h.heap, h.gam, h.own, h.glob, h.rho⟩
            simp only at hy ⊢
            rw [Env.get_ins] at hy
            split at hy
            · rename_i ht; subst ht; simp at hy; subst hy
              exact ⟨b, p2, by rw [hset]; exact q1⟩
            · rename_i ht
              have h6 := h.env t y hy
              cases y with
              | v y => exact h6
              | b cs => exact h6
              | a u' off' =>
                obtain ⟨⟨cs'', hu⟩, hr⟩ := h6
                refine ⟨?_, hr⟩
                rw [Env.get_ins]
                by_cases e : u' = u
                · simp [e]
                · simp [e, hu]
          have hfree : PosFree { s with env := s.env.ins u (.b (setCells cs' off [.list none sz xs])) } (.bc u off) := by
            refine ⟨by simp, fun t i cs c ht hb' hc => ?_, by simp, by simp, by simp, by simp⟩
            simp at ht; obtain ⟨rfl, rfl⟩ := ht
            simp only [Env.get_ins] at hb'; simp at hb'; subst hb'
            rw [hset] at hc
            rw [List.getElem?_set_self (by have := (List.getElem?_eq_some_iff.1 hcs).1; exact this)] at hc
            simp at hc; subst hc; exact NotOwn.none _ _
          obtain ⟨g', r1, r2⟩ := h5.passTo hfree (by simp) (by simp) hd'.2 h4 q3 q4 ⟨e, sz, xs, rfl⟩
          exact ⟨v, w, g', .inl (hrun b off v p3 q2), r1, by rw [hd'.1]; exact r2⟩
        · cases h2
      | hp id off =>
        obtain ⟨b, p1, p2⟩ := hadr
        simp only [rdAt] at h2
        split at h2
        · rename_i cs' hid
          obtain ⟨b', m1, m2⟩ := h.heap _ _ hid
          rw [p1] at m1; simp at m1; subst m1
          split at h2
          · rename_i hb
            simp at h2
            simp only [wrAt, hid] at h3
            rw [if_pos (by simpa using hb)] at h3
            simp at h3; subst h3
            have hcs := getElem_of_rd h2
            obtain ⟨q1, v, q2, q3, q4⟩ := m2.strip hcs
            have hset : setCells cs' off [.list none sz xs] = cs'.set off (.list none sz xs) := rfl
            have hidlt : id < s.heap.length := (List.getElem?_eq_some_iff.1 hid).1
            have h5 : Rel P gl N g { s with heap := s.heap.set id (.cells (setCells cs' off [.list none sz xs])) } a w := by
              refine ⟨h.sorted, h.size, h.defers, h.env, fun id' ob hob => ?_, h.gam, h.own, h.glob, fun i b hi => by simpa using h.rho i b hi⟩
              simp only at hob
              rw [List.getElem?_set] at hob
              split at hob
              · rename_i e; subst e
                simp at hob; subst hob
                exact ⟨b, p1, by rw [hset]; exact q1⟩
              · exact h.heap id' ob hob
            have hfree : PosFree { s with heap := s.heap.set id (.cells (setCells cs' off [.list none sz xs])) } (.oc id off) := by
              refine ⟨by simp, by simp, fun id' i cs c ht hb' hc => ?_, fun id' i n es ht hb' => ?_, by simp, by simp⟩
              · simp at ht; obtain ⟨rfl, rfl⟩ := ht
                simp only at hb'
                rw [List.getElem?_set_self hidlt] at hb'
                simp at hb'; subst hb'
                rw [hset] at hc
                rw [List.getElem?_set_self (by have := (List.getElem?_eq_some_iff.1 hcs).1; exact this)] at hc
                simp at hc; subst hc; exact NotOwn.none _ _
              · simp at ht; obtain ⟨rfl, rfl⟩ := ht
                simp only at hb'
                rw [List.getElem?_set_self hidlt] at hb'
                simp at hb'
            obtain ⟨g', r1, r2⟩ := h5.passTo hfree (by simp) (by simp) hd'.2 h4 q3 q4 ⟨e, sz, xs, rfl⟩
            exact ⟨v, w, g', .inl (hrun b off v p2 q2), r1, by rw [hd'.1]; exact r2⟩
          · cases h2
        · rename_i e1 cs' hid
          obtain ⟨b', kk, m1, m1', m2, m3⟩ := h.heap _ _ hid
          rw [p1] at m1; simp at m1; subst m1
          split at h2
          · rename_i hb
            simp at h2
            simp only [wrAt, hid] at h3
            rw [if_pos (by simpa using hb)] at h3
            simp at h3; subst h3
            have hcs := getElem_of_rd h2
            obtain ⟨q1, v, q2, q3, q4⟩ := m2.strip hcs
            have hset : setCells cs' off [.list none sz xs] = cs'.set off (.list none sz xs) := rfl
            have hidlt : id < s.heap.length := (List.getElem?_eq_some_iff.1 hid).1
            have h5 : Rel P gl N g { s with heap := s.heap.set id (.buf e1 (setCells cs' off [.list none sz xs])) } a w := by
              refine ⟨h.sorted, h.size, h.defers, h.env, fun id' ob hob => ?_, h.gam, h.own, h.glob, fun i b hi => by simpa using h.rho i b hi⟩
              simp only at hob
              rw [List.getElem?_set] at hob
              split at hob
              · rename_i e; subst e
                simp at hob; subst hob
                exact ⟨b, kk, p1, m1', by rw [hset]; exact q1, m3⟩
              · exact h.heap id' ob hob
            have hfree : PosFree { s with heap := s.heap.set id (.buf e1 (setCells cs' off [.list none sz xs])) } (.oc id off) := by
              refine ⟨by simp, by simp, fun id' i cs c ht hb' hc => ?_, fun id' i n es ht hb' => ?_, by simp, by simp⟩
              · simp at ht; obtain ⟨rfl, rfl⟩ := ht
                simp only at hb'
                rw [List.getElem?_set_self hidlt] at hb'
                simp at hb'; subst hb'
                rw [hset] at hc
                rw [List.getElem?_set_self (by have := (List.getElem?_eq_some_iff.1 hcs).1; exact this)] at hc
                simp at hc; subst hc; exact NotOwn.none _ _
              · simp at ht; obtain ⟨rfl, rfl⟩ := ht
                simp only at hb'
                rw [List.getElem?_set_self hidlt] at hb'
                simp at hb'
            obtain ⟨g', r1, r2⟩ := h5.passTo hfree (by simp) (by simp) hd'.2 h4 q3 q4 ⟨e, sz, xs, rfl⟩
            exact ⟨v, w, g', .inl (hrun b off v p2 q2), r1, by rw [hd'.1]; exact r2⟩
          · cases h2
        · cases h2
      | im cs' => simp [wrAt] at h3
    · rename_i z
      obtain ⟨b, off, hv, ⟨ws, q1, q2, q3, q4⟩, q5⟩ := rdAt_sound h (adr_sound h hx h1) h2
      cases q2 with
      | cons _ _ u us hu hus =>
        cases hus
        have hcell := q4 0 u (by simp)
        have hu := hu.nils_inv
        subst hu
        refine ⟨_, w, g, .inl (hrun b off _ hv (by simpa using hcell)), .refl _ _, ?_⟩
        rw [hd'.1]
        exact h.put he hd'.2 (.own _ _ _ _ (.list0 _ _ _)) (okElem_own hok g w _)
    · cases he
  · cases hop

/-- Plain data among the values. -/
theorem VR.pure1_pr {x : AV} {v : Value} (h : VR g x v) (hx : x.pure1 = true) : PR g.γ x v := by
  cases h with
  | pure _ _ h => exact h
  | own => simp [AV.pure1] at hx
  | ptr => simp [AV.pure1] at hx
  | map => simp [AV.pure1] at hx
  | sl => simp [AV.pure1] at hx
  | nilc => simp [AV.pure1] at hx
  | fn => simp [AV.pure1] at hx
  | agg => simp [AV.pure1] at hx
  | tup => simp [AV.pure1] at hx
theorem VRs.pure_prs {cs : List AV} {ws : List Value} (h : VRs g cs ws) (hc : cs.all AV.pure1 = true) (h1 : ∀ v ∈ ws, v.oneCell' = true) : PRs g.γ cs ws := by
  induction ws generalizing cs with
  | nil => cases h; exact .nil
  | cons w ws ih => cases h with
    | cons c cs _ _ hv hvs =>
      simp only [List.all_cons, Bool.and_eq_true] at hc
      exact .cons _ _ _ _ (h1 w (by simp)) (hv.pure1_pr hc.1) (ih hvs hc.2 fun v hv => h1 v (by simp [hv]))
theorem VR.pure_pr {x : AV} {v : Value} (h : VR g x v) (hx : x.pure = true) : PR g.γ x v := by
  by_cases hag : ∃ cs, x = .agg cs
  · obtain ⟨cs, rfl⟩ := hag
    obtain ⟨ws, rfl, p1, p2⟩ := h.agg_inv
    exact .agg _ _ (p1.pure_prs (by simpa [AV.pure] using hx) p2)
  · refine h.pure1_pr ?_
    cases x <;> first | exact hx | exact absurd ⟨_, rfl⟩ hag

def Gh.addI (g : Gh) (b : Nat) (arr : Array Value) : Gh := { g with γ := fun k off => if k = b then arr[off]? else g.γ k off, Ω := fun k => if k = b then .junk else g.Ω k }
/-- A new immutable block. -/
theorem Rel.allocI (h : Rel P gl N g s a w) (arr : Array Value) (ty : TypeId) :
    GLe g w (g.addI w.heap.size arr) (w.alloc (.cells arr ty)) ∧ Rel P gl N (g.addI w.heap.size arr) s a (w.alloc (.cells arr ty)) := by
  have hle : GhLe g (g.addI w.heap.size arr) := ⟨fun b off v hv => by
    have : b ≠ w.heap.size := fun e => by subst e; rw [h.gnone] at hv; cases hv
    simp [Gh.addI, this, hv], fun _ _ h => h⟩
  have hne : ∀ b, g.Ω b ≠ .none → b ≠ w.heap.size := fun b hb e => by subst e; exact hb h.onone
  have hsame : ∀ b, g.Ω b ≠ .none → (g.addI w.heap.size arr).Ω b = g.Ω b ∧ (w.alloc (.cells arr ty)).heap[b]? = w.heap[b]? ∧ ∀ o, (g.addI w.heap.size arr).γ b o = g.γ b o := fun b hb =>
    ⟨by simp [Gh.addI, hne b hb], heap_alloc_old w _ b (h.own b hb), fun _ => by simp [Gh.addI, hne b hb]⟩
  refine ⟨⟨hle, fun b hb => ?_, by rw [alloc_size]; omega, rfl, rfl⟩, h.step .none (PosFree.none s) hle (fun b hb => hsame b hb.1) (fun b off v hv => ?_) (fun b hb => ?_) h.rho⟩
  · obtain ⟨h1, h2, h3⟩ := hsame b (by rw [hb]; simp)
    exact ⟨h1.trans hb, h2, h3⟩
  · by_cases e : b = w.heap.size
    · subst e
      simp [Gh.addI] at hv
      rw [cell_of_row _ _ _ arr ty (0, 0) (heap_alloc_new w _)]; exact hv
    · simp [Gh.addI, e] at hv; exact cell_alloc _ (h.gam b off v hv)
  · by_cases e : b = w.heap.size
    · rw [alloc_size]; omega
    · simp [Gh.addI, e] at hb; have := h.own b hb; rw [alloc_size]; omega

/-- Rows of cells that stand one after the other in a list of values. -/
theorem PRc.of_list {γ : Gam} {b : Nat} : ∀ {cs : List AV} {ws : List Value} {off : Nat}, PRs γ cs ws → (∀ (i : Nat) v, ws[i]? = some v → γ b (off + i) = some v) → PRc γ b off cs
  | [], _, _, .nil, _ => .nil _ _
  | c :: cs, _, off, .cons _ _ v ws h1 h2 h3, h => .cons _ _ _ _ v (by simpa using h 0 v (by simp)) h1 h2 (PRc.of_list h3 fun i u hu => by
      have := h (i + 1) u (by simpa using hu); rw [← this]; congr 1; omega)
theorem PRr.of_rows {γ : Gam} {b sz : Nat} : ∀ {xs : List AV} {rows : List (List Value)} {off : Nat}, xs.length = rows.length →
    (∀ (i : Nat) x r, xs[i]? = some x → rows[i]? = some r → x.cells.length = sz ∧ PRs γ x.cells r ∧ r.length = sz) → (∀ (i : Nat) v, rows.flatten[i]? = some v → γ b (off + i) = some v) → PRr γ b off sz xs
  | [], _, _, _, _, _ => .nil _ _ _
  | x :: xs, [], _, h, _, _ => by simp at h
  | x :: xs, r :: rows, off, h, hr, hg => by
    obtain ⟨h1, h2, h3⟩ := hr 0 x r (by simp) (by simp)
    refine .cons _ _ _ _ _ h1 (PRc.of_list h2 fun i v hv => hg i v ?_) (PRr.of_rows (rows := rows) (by simpa using h) (fun i x r hx hr' => hr (i + 1) x r (by simpa using hx) (by simpa using hr')) fun i v hv => ?_)
    · rw [List.flatten_cons, List.getElem?_append_left (List.getElem?_eq_some_iff.1 hv).1]; exact hv
    · have := hg (sz + i) v (by rw [List.flatten_cons, List.getElem?_append_right (by omega)]; rw [← hv]; congr 1; omega)
      rw [← this]; congr 1; omega

theorem PR.cells {γ : Gam} {x : AV} {v : Value} (h : PR γ x v) : PRs γ x.cells v.cells.toList := by
  cases h with
  | agg cs ws h => simpa [AV.cells, Value.cells] using h
  | bool b => exact .cons _ _ _ _ rfl (.bool b) .nil
  | int k n => exact .cons _ _ _ _ rfl (.int k n) .nil
  | str l h => exact .cons _ _ _ _ rfl (.str l h) .nil
  | nilp => exact .cons _ _ _ _ rfl .nilp .nil
  | nilm => exact .cons _ _ _ _ rfl .nilm .nil
  | nilf => exact .cons _ _ _ _ rfl .nilf .nil
  | nili => exact .cons _ _ _ _ rfl .nili .nil
  | nils sz => exact .cons _ _ _ _ rfl (.nils sz) .nil
  | cptr b off cs h => exact .cons _ _ _ _ rfl (.cptr b off cs h) .nil
  | list0 sz base cap => exact .cons _ _ _ _ rfl (.list0 sz base cap) .nil
  | list b off cap sz xs h1 h2 h3 => exact .cons _ _ _ _ rfl (.list b off cap sz xs h1 h2 h3) .nil

/-- The cells of a literal's elements, laid one after the other. -/
theorem foldl_set (off : Nat) : ∀ (us : List Value) (k : Nat) (A : Array Value), off + k + us.length ≤ A.size →
    ((us.zipIdx k).foldl (fun cs (c, j) => cs.setIfInBounds (off + j) c) A).toList = A.toList.take (off + k) ++ us ++ A.toList.drop (off + k + us.length)
  | [], k, A, _ => by simp
  | u :: us, k, A, h => by
    simp only [List.length_cons] at h
    rw [List.zipIdx_cons, List.foldl_cons, foldl_set off us (k + 1) _ (by simp; omega)]
    have e := list_seg_step A.toList (off + k) u us (by simp; omega)
    simpa [Array.toList_setIfInBounds, Nat.add_assoc] using e
theorem fill_rows (size : Nat) : ∀ (vs : List Value) (k : Nat) (A : Array Value), (∀ v ∈ vs, v.cells.size = size) → A.size = (k + vs.length) * size →
    ∃ B, Instr.fill (fun i => some (i * size, size)) A ((vs.zipIdx k).map fun (v, i) => (i, v)) = some B ∧ B.toList = A.toList.take (k * size) ++ (vs.map (·.cells.toList)).flatten
  | [], k, A, _, h => ⟨A, by simp [Instr.fill], by simp at h ⊢; rw [List.take_of_length_le (by simp; omega)]⟩
  | v :: vs, k, A, hv, h => by
    have hsz := hv v (by simp)
    have hle : k * size + size ≤ A.size := by
      rw [h]; simp only [List.length_cons]
      have : (k + (vs.length + 1)) * size = k * size + size + vs.length * size := by rw [Nat.add_mul, Nat.add_mul]; omega
      omega
    have hf := foldl_set (k * size) v.cells.toList 0 A (by simp; omega)
    simp only [Nat.add_zero] at hf
    have hA : (v.cells.zipIdx.foldl (fun cs (c, j) => cs.setIfInBounds (k * size + j) c) A) = (v.cells.toList.zipIdx.foldl (fun cs (c, j) => cs.setIfInBounds (k * size + j) c) A) := by
      rw [← Array.foldl_toList]; simp
    have hlB : (v.cells.toList.zipIdx.foldl (fun cs (c, j) => cs.setIfInBounds (k * size + j) c) A).size = A.size := by
      rw [← Array.length_toList, hf]; simp [hsz]; omega
    have hmul : (k + 1 + vs.length) * size = (k + (v :: vs).length) * size := by congr 1; simp; omega
    obtain ⟨B, h1, h2⟩ := fill_rows size vs (k + 1) (v.cells.zipIdx.foldl (fun cs (c, j) => cs.setIfInBounds (k * size + j) c) A) (fun u hu => hv u (by simp [hu])) (by
      rw [hA, hlB, h, hmul])
    refine ⟨B, ?_, ?_⟩
    · simp only [List.zipIdx_cons, List.map_cons, Instr.fill]
      rw [if_neg (by simp [hsz]; omega)]
      exact h1
    · rw [h2, hA, hf, List.take_left' (by simp [hsz, Nat.add_mul]; omega)]
      simp only [List.map_cons, List.flatten_cons, List.append_assoc]
end
end AM
/-! The simulation of literals, structs, arrays' slices, made slices, appends. -/
namespace AM
open Go
section
variable {P : Program} {gl : Glob} {N : Nat} {g g' : Gh} {s s' : St} {a : Act} {w w' : World} {o : Oper}

/-- A slice type's element: its number, cells. -/
def elemOk (P : Program) (t e sz : Nat) : Bool :=
  match P.underlying t with
  | some (.slice e') => e' == e && okElem P e sz
  | _ => false
theorem okElem_spec {e sz : Nat} (h : okElem P e sz = true) : ∃ i z, P.info? e = some i ∧ i.size = sz ∧ 0 < sz ∧ i.zero = some z ∧ z.cells.size = sz ∧ i.bytes ≤ 128 := by
  unfold okElem at h
  split at h
  · rename_i i hi
    simp only [Bool.and_eq_true, beq_iff_eq, decide_eq_true_eq] at h
    obtain ⟨⟨⟨h1, h2⟩, h3⟩, h4⟩ := h
    split at h3
    · rename_i z hz
      simp at h3
      exact ⟨i, z, hi, h1, h2, hz, h3, h4⟩
    · cases h3
  · cases h
theorem elemOk_spec {t e sz : Nat} (h : elemOk P t e sz = true) : P.underlying t = some (.slice e) ∧ okElem P e sz = true := by
  unfold elemOk at h
  split at h
  · simp at h; obtain ⟨rfl, h⟩ := h; exact ⟨by assumption, h⟩
  · cases h

def seqParts (n : Nat) (ps : List (Nat × Operand)) : Bool := (ps.map (·.1)) == List.range n
def litOk (P : Program) (t sz : Nat) : Bool :=
  match P.underlying t with
  | some (.slice e) => okElem P e sz && decide (sz ≤ 1000)
  | _ => false
def chkLit (P : Program) (N : Nat) (o : Oper) (d sz : Nat) (xs : List Opd) : Bool := dstIs N o d &&
  (match o.op with | .buildSlice t n ps => n == xs.length && seqParts n ps.toList && chkOpds (ps.toList.map (·.2)) xs && litOk P t sz | _ => false)

theorem seqParts_spec {n : Nat} {ps : List (Nat × Operand)} (h : seqParts n ps = true) (f : Operand → Value) :
    ps.map (fun (i, x) => (i, f x)) = ((ps.map (·.2)).map f).zipIdx.map fun (v, i) => (i, v) := by
  simp only [seqParts, beq_iff_eq] at h
  apply List.ext_getElem?
  intro i
  have hi : (ps.map (·.1))[i]? = (List.range n)[i]? := by rw [h]
  simp only [List.getElem?_map, List.getElem?_zipIdx, Nat.zero_add] at hi ⊢
  cases hp : ps[i]? with
  | none => simp
  | some p =>
    simp only [hp, Option.map_some] at hi ⊢
    have hlt : i < n := by
      have h1 := (List.getElem?_eq_some_iff.1 hp).1
      have h2 : (ps.map (·.1)).length = n := by rw [h]; simp
      simp at h2; omega
    simp [hlt] at hi
    simp [hi]

theorem run_buildSlice {t e : TypeId} {i : TypeInfo} {z : Value} {vs : List Value} (hu : P.underlying t = some (.slice e)) (hi : P.info? e = some i) (hz : i.zero = some z)
    (hs : 0 < i.size) (hv : ∀ v ∈ vs, v.cells.size = i.size) (hn : vs.length * i.size ≤ 2 ^ 24) :
    (Instr.buildSlice t vs.length (vs.zipIdx.map fun (v, i) => (i, v)).toArray).run P w =
      .ok (.slice (some ⟨w.heap.size, 0, none⟩) vs.length vs.length) (w.alloc (.cells (vs.map (·.cells.toList)).flatten.toArray e)) := by
  have hA : ((Array.range (vs.length * i.size)).map (z.cells[· % z.cells.size]!)).size = (0 + vs.length) * i.size := by simp
  obtain ⟨B, h1, h2⟩ := fill_rows i.size vs 0 _ hv hA
  simp only [Nat.zero_mul, List.take_zero, List.nil_append] at h2
  have hB : B = (vs.map (·.cells.toList)).flatten.toArray := by apply Array.ext'; simpa using h2
  have hnl : ¬ (vs.length * i.size > 2 ^ 24) := by omega
  simp only [Instr.buildSlice, Sem.run_bind, run_underlying hu, Result.andThen_ok, Go.sizeOf, typeInfo, run_program, hi, Sem.run_pure, Sem.run_ite, hnl, if_false]
  by_cases h0 : vs.length * i.size = 0
  · have hvs : vs = [] := by
      rcases Nat.mul_eq_zero.1 h0 with h | h
      · exact List.eq_nil_of_length_eq_zero h
      · omega
    subst hvs
    have e0 : Array.range 0 = #[] := rfl
    simp [newRow, newObj, Sem.run, Instr.fill, e0]
  · rw [if_neg h0]
    have hl : (List.map (fun (x : Value × Nat) => (x.2, x.1)) vs.zipIdx) = vs.zipIdx.map fun (v, i) => (i, v) := rfl
    simp only [zeroValue, typeInfo, Sem.run_bind, run_program, hi, Result.andThen_ok, Sem.run_pure, hz]
    simp only [hl, h1]
    simp [newRow, newObj, Sem.run, hB]

theorem sim_lit {d sz : Nat} {xs : List Opd} (h : Rel P gl N g s a w) (hc : chkLit P N o d sz xs = true) (he : ev gl s (.lit d sz xs) = some s') : Sim1 P gl N o g a w s' := by
  simp only [chkLit, Bool.and_eq_true] at hc
  obtain ⟨hd, hop⟩ := hc
  split at hop
  · rename_i t n ps ho
    simp only [Bool.and_eq_true, beq_iff_eq] at hop
    obtain ⟨⟨⟨rfl, hseq⟩, hxs⟩, hk⟩ := hop
    unfold litOk at hk
    split at hk
    · rename_i e hu
      simp only [Bool.and_eq_true, decide_eq_true_eq] at hk
      obtain ⟨hk1, hk2⟩ := hk
      obtain ⟨i, z, r1, r2, r3, r4, r5, r6⟩ := okElem_spec hk1
      obtain ⟨vs, e1, e2⟩ := bind_some he
      split at e2
      · rename_i hb
        simp only [Bool.and_eq_true, decide_eq_true_eq, List.all_eq_true, beq_iff_eq] at hb
        obtain ⟨hb1, hb2⟩ := hb
        have hvr := evOs_sound h hxs e1
        have hps : (ps.map fun (i, x) => (i, a.eval x)) = (((ps.toList.map (·.2)).map a.eval).zipIdx.map fun (v, i) => (i, v)).toArray := by
          rw [← seqParts_spec hseq a.eval]; apply Array.ext'; simp
        have hl2 : xs.length = ((ps.toList.map (·.2)).map a.eval).length := by
          simp only [chkOpds, Bool.and_eq_true, beq_iff_eq] at hxs; rw [List.length_map]; exact hxs.1.symm
        generalize (ps.toList.map (·.2)).map a.eval = us at hvr hps hl2
        have hget := hvr.get
        -- the concrete elements
        have hpr : ∀ (k : Nat) x v, vs[k]? = some x → us[k]? = some v → PR g.γ x.noOwn v ∧ x.noOwn.cells.length = sz ∧ v.cells.size = sz := by
          intro k x v hx hv
          obtain ⟨hp1, hp2⟩ := hb1 x (List.mem_of_getElem? hx)
          obtain ⟨v', q1, q2⟩ := hget.2 k x hx
          rw [hv] at q1; simp at q1; subst q1
          have hp := q2.noOwn.pure_pr hp1
          have hcl : x.noOwn.cells.length = sz := by
            have : x.noOwn.cells.length = x.cells.length := by cases x <;> rfl
            rw [this]; exact hp2
          refine ⟨hp, hcl, ?_⟩
          have hpc := hp.cells
          have : ∀ {cs : List AV} {ws : List Value}, PRs g.γ cs ws → ws.length = cs.length := by
            intro cs ws hh
            induction ws generalizing cs with
            | nil => cases hh; rfl
            | cons w ws ih => cases hh with | cons _ _ _ _ _ _ h3 => simp [ih h3]
          have := this hpc
          simp at this; omega
        have hvsz : ∀ v ∈ us, v.cells.size = i.size := by
          intro v hv
          obtain ⟨k, hk', hkv⟩ := List.getElem_of_mem hv
          have hkl : k < vs.length := by have := hget.1; omega
          have := (hpr k vs[k] v (by simp [hkl]) (by rw [List.getElem?_eq_getElem hk', hkv])).2.2
          omega
        have hrun := run_buildSlice (P := P) (w := w) hu r1 r4 (by omega) hvsz (by
          have h1 : us.length ≤ 1000 := by rw [hget.1]; exact hb2
          calc _ ≤ 1000 * 1000 := Nat.mul_le_mul h1 (by omega)
            _ ≤ 2 ^ 24 := by decide)
        obtain ⟨q1, q2⟩ := h.allocI (us.map (·.cells.toList)).flatten.toArray e
        refine ⟨.slice (some ⟨w.heap.size, 0, none⟩) us.length us.length, _, _, .inl ?_, q1, ?_⟩
        · simp only [execOp, ho, Sem.run_bind]
          rw [hps, hl2, hrun]; rfl
        · simp only [dstIs, Bool.and_eq_true, beq_iff_eq, decide_eq_true_eq] at hd
          rw [hd.1]
          refine q2.put e2 hd.2 (.pure _ _ ?_) (NotOwn.none _ _).ownR
          refine .list_of (by rw [List.length_map]; exact hget.1) (by simp; unfold M; omega) (by rw [List.length_map]; omega) ?_
          refine PRr.of_rows (rows := us.map (·.cells.toList)) (by rw [List.length_map, List.length_map]; exact hget.1.symm) (fun k x r hx hr => ?_) fun k v hv => by simpa [Gh.addI] using hv
          rw [List.getElem?_map] at hx hr
          cases hxk : vs[k]? with
          | none => simp [hxk] at hx
          | some x' =>
            cases hvk : us[k]? with
            | none => simp [hvk] at hr
            | some v' =>
              simp [hxk] at hx; simp only [hvk, Option.map_some, Option.some.injEq] at hr; subst hx hr
              obtain ⟨m1, m2, m3⟩ := hpr k x' v' hxk hvk
              exact ⟨m2, (m1.mono q1.γ).cells, by simpa using m3⟩
      · cases e2
    · cases hk
  · cases hop
end
end AM
/-! The simulation of structs, arrays' slices, made slices, appends. -/
namespace AM
open Go
section
variable {P : Program} {gl : Glob} {N : Nat} {g g' : Gh} {s s' : St} {a : Act} {w w' : World} {o : Oper}

theorem run_mapM_list {α β : Type} {f : α → Sem β} {h : α → β} : ∀ {xs : List α}, (∀ x ∈ xs, (f x).run P w = .ok (h x) w) → (xs.mapM f).run P w = .ok (xs.map h) w
  | [], _ => by simp
  | x :: xs, hx => by
    have h1 := hx x (by simp)
    have h2 := run_mapM_list (xs := xs) fun y hy => hx y (by simp [hy])
    simp only [List.mapM_cons, Sem.run_bind, h1, Result.andThen_ok, h2, Sem.run_pure, List.map_cons]
theorem run_mapM {α β : Type} {f : α → Sem β} {h : α → β} {xs : Array α} (hx : ∀ x ∈ xs.toList, (f x).run P w = .ok (h x) w) : (xs.mapM f).run P w = .ok (xs.map h) w := by
  rw [Array.mapM_eq_mapM_toList, Sem.run_map, run_mapM_list hx]
  simp only [Result.andThen_ok]
  congr 1
  apply Array.ext'; simp

theorem VRs.append {xs ys : List AV} {us vs : List Value} (h : VRs g xs us) (h' : VRs g ys vs) : VRs g (xs ++ ys) (us ++ vs) := by
  induction us generalizing xs with
  | nil => cases h; exact h'
  | cons u us ih => cases h with | cons _ _ _ _ h1 h2 => exact .cons _ _ _ _ h1 (ih h2)
theorem VRs.take {xs : List AV} {us : List Value} (h : VRs g xs us) (n : Nat) : VRs g (xs.take n) (us.take n) := by
  induction us generalizing xs n with
  | nil => cases h; simpa using VRs.nil
  | cons u us ih => cases h with
    | cons _ _ _ _ h1 h2 => cases n with
      | zero => exact .nil
      | succ n => exact .cons _ _ _ _ h1 (ih h2 n)
theorem VRs.drop {xs : List AV} {us : List Value} (h : VRs g xs us) (n : Nat) : VRs g (xs.drop n) (us.drop n) := by
  induction us generalizing xs n with
  | nil => cases h; simpa using VRs.nil
  | cons u us ih => cases h with
    | cons _ _ _ _ h1 h2 => cases n with
      | zero => exact .cons _ _ _ _ h1 h2
      | succ n => exact ih h2 n

def partOk (P : Program) (fs : Array Field) (i off n : Nat) : Bool :=
  match fs[i]? with
  | some f => f.offset == off && (match P.info? f.type with | some j => j.size == n | none => false)
  | none => false
def partsOk (P : Program) (fs : Array Field) : List (Nat × Operand) → List (Nat × Nat × Opd) → Bool
  | [], [] => true
  | (i, x') :: r, (off, n, x) :: r' => partOk P fs i off n && chkOpd x' x && partsOk P fs r r'
  | _, _ => false
def structOk (P : Program) (t : TypeId) (ps : List (Nat × Operand)) (parts : List (Nat × Nat × Opd)) : Bool :=
  match P.underlying t with
  | some (.struct fs) => fs.toList.all (fun f => (P.info? f.type).isSome) && partsOk P fs ps parts
  | _ => false
/-- The parts of an array. -/
def arrParts (sz : Nat) : List (Nat × Operand) → List (Nat × Nat × Opd) → Bool
  | [], [] => true
  | (i, x') :: r, (off, n, x) :: r' => off == i * sz && n == sz && chkOpd x' x && arrParts sz r r'
  | _, _ => false
def arrBOk (P : Program) (t : TypeId) (ps : List (Nat × Operand)) (parts : List (Nat × Nat × Opd)) : Bool :=
  match P.underlying t with
  | some (.array _ e) => (match P.info? e with | some i => arrParts i.size ps parts | none => false)
  | _ => false
def chkBuild (P : Program) (N : Nat) (o : Oper) (d : Nat) (z : List AV) (parts : List (Nat × Nat × Opd)) : Bool := dstIs N o d &&
  (match o.op with | .build t ps => zeroOk P t z && (structOk P t ps.toList parts || arrBOk P t ps.toList parts) | _ => false)

theorem fill_sound (h : Rel P gl N g s a w) (fs : Array Field) (places : Array (Nat × Nat)) (hpl : ∀ (i : Nat) f, fs[i]? = some f → places[i]? = some (f.offset, P.cellsOf f.type)) :
    ∀ (parts : List (Nat × Nat × Opd)) (ps : List (Nat × Operand)) (cs cs' : List AV) (A : Array Value), partsOk P fs ps parts = true → fillParts gl s.env cs parts = some cs' → VRs g cs A.toList → (∀ v ∈ A.toList, v.oneCell' = true) →
      ∃ B, Instr.fill (places[·]?) A (ps.map fun (i, x) => (i, a.eval x)) = some B ∧ VRs g cs' B.toList ∧ ∀ v ∈ B.toList, v.oneCell' = true
  | [], ps, cs, cs', A, hp, hf, hv, h1 => by
    cases ps with
    | cons => simp [partsOk] at hp
    | nil => simp [fillParts] at hf; subst hf; exact ⟨A, rfl, hv, h1⟩
  | (off, n, x) :: parts, ps, cs, cs', A, hp, hf, hv, h1 => by
    cases ps with
    | nil => simp [partsOk] at hp
    | cons p ps =>
      obtain ⟨i, x'⟩ := p
      simp only [partsOk, Bool.and_eq_true] at hp
      obtain ⟨⟨hp1, hp2⟩, hp3⟩ := hp
      unfold partOk at hp1
      split at hp1
      · rename_i f hfi
        simp only [Bool.and_eq_true, beq_iff_eq] at hp1
        obtain ⟨rfl, hp1⟩ := hp1
        split at hp1
        · rename_i j hj
          simp at hp1
          have hplace := hpl i f hfi
          have hcells : P.cellsOf f.type = n := by simp [Program.cellsOf, hj, hp1]
          rw [hcells] at hplace
          simp only [fillParts] at hf
          split at hf
          · rename_i u hu
            split at hf
            · rename_i hb
              obtain ⟨hb1, hb2, hb3⟩ := hb
              obtain ⟨q1, q2⟩ := (evO_sound h hp2 hu).cells hb3
              have hlA : A.toList.length = cs.length := hv.get.1
              have hlu : (a.eval x').cells.size = n := by have := q1.get.1; simp at this; omega
              have hfold := foldl_set f.offset (a.eval x').cells.toList 0 A (by simp at hlA ⊢; omega)
              simp only [Nat.add_zero] at hfold
              have hA : ((a.eval x').cells.zipIdx.foldl (fun cs (c, j) => cs.setIfInBounds (f.offset + j) c) A) = ((a.eval x').cells.toList.zipIdx.foldl (fun cs (c, j) => cs.setIfInBounds (f.offset + j) c) A) := by
                rw [← Array.foldl_toList]; simp
              have hlc : (u.cells.map AV.noOwn).length = n := by simpa using hb1
              obtain ⟨B, r1, r2, r3⟩ := fill_sound h fs places hpl parts ps _ cs' ((a.eval x').cells.zipIdx.foldl (fun cs (c, j) => cs.setIfInBounds (f.offset + j) c) A) hp3 hf (by
                rw [hA, hfold, setCells_eq _ _ _ (by rw [hlc]; exact hb2), hlc]
                have : (a.eval x').cells.toList.length = n := by simpa using hlu
                rw [this]
                exact ((hv.take _).append q1.noOwn).append (hv.drop _)) (by
                rw [hA, hfold]
                intro v hv'
                rcases List.mem_append.1 hv' with hv' | hv'
                · rcases List.mem_append.1 hv' with hv' | hv'
                  · exact h1 v (List.mem_of_mem_take hv')
                  · exact q2 v hv'
                · exact h1 v (List.mem_of_mem_drop hv'))
              refine ⟨B, ?_, r2, r3⟩
              simp only [List.map_cons, Instr.fill, hplace]
              rw [if_neg (by simp [hlu]; simp at hlA; omega)]
              exact r1
            · cases hf
          · cases hf
        · cases hp1
      · cases hp1

theorem fill_arr (h : Rel P gl N g s a w) (sz : Nat) : ∀ (parts : List (Nat × Nat × Opd)) (ps : List (Nat × Operand)) (cs cs' : List AV) (A : Array Value), arrParts sz ps parts = true → fillParts gl s.env cs parts = some cs' → VRs g cs A.toList → (∀ v ∈ A.toList, v.oneCell' = true) →
      ∃ B, Instr.fill (fun i => some (i * sz, sz)) A (ps.map fun (i, x) => (i, a.eval x)) = some B ∧ VRs g cs' B.toList ∧ ∀ v ∈ B.toList, v.oneCell' = true
  | [], ps, cs, cs', A, hp, hf, hv, h1 => by
    cases ps with
    | cons => simp [arrParts] at hp
    | nil => simp [fillParts] at hf; subst hf; exact ⟨A, rfl, hv, h1⟩
  | (off, n, x) :: parts, ps, cs, cs', A, hp, hf, hv, h1 => by
    cases ps with
    | nil => simp [arrParts] at hp
    | cons p ps =>
      obtain ⟨i, x'⟩ := p
      simp only [arrParts, Bool.and_eq_true, beq_iff_eq] at hp
      obtain ⟨⟨⟨rfl, rfl⟩, hp2⟩, hp3⟩ := hp
      simp only [fillParts] at hf
      split at hf
      · rename_i u hu
        split at hf
        · rename_i hb
          obtain ⟨hb1, hb2, hb3⟩ := hb
          obtain ⟨q1, q2⟩ := (evO_sound h hp2 hu).cells hb3
          have hlA : A.toList.length = cs.length := hv.get.1
          have hlu : (a.eval x').cells.size = n := by have := q1.get.1; simp at this; omega
          have hfold := foldl_set (i * n) (a.eval x').cells.toList 0 A (by simp at hlA ⊢; omega)
          simp only [Nat.add_zero] at hfold
          have hA : ((a.eval x').cells.zipIdx.foldl (fun cs (c, j) => cs.setIfInBounds (i * n + j) c) A) = ((a.eval x').cells.toList.zipIdx.foldl (fun cs (c, j) => cs.setIfInBounds (i * n + j) c) A) := by
            rw [← Array.foldl_toList]; simp
          have hlc : (u.cells.map AV.noOwn).length = n := by simpa using hb1
          obtain ⟨B, r1, r2, r3⟩ := fill_arr h n parts ps _ cs' ((a.eval x').cells.zipIdx.foldl (fun cs (c, j) => cs.setIfInBounds (i * n + j) c) A) hp3 hf (by
            rw [hA, hfold, setCells_eq _ _ _ (by rw [hlc]; exact hb2), hlc]
            have : (a.eval x').cells.toList.length = n := by simpa using hlu
            rw [this]
            exact ((hv.take _).append q1.noOwn).append (hv.drop _)) (by
            rw [hA, hfold]
            intro v hv'
            rcases List.mem_append.1 hv' with hv' | hv'
            · rcases List.mem_append.1 hv' with hv' | hv'
              · exact h1 v (List.mem_of_mem_take hv')
              · exact q2 v hv'
            · exact h1 v (List.mem_of_mem_drop hv'))
          refine ⟨B, ?_, r2, r3⟩
          simp only [List.map_cons, Instr.fill]
          rw [if_neg (by simp [hlu]; simp at hlA; omega)]
          exact r1
        · cases hf
      · cases hf
theorem sim_build {d : Nat} {z : List AV} {parts : List (Nat × Nat × Opd)} (h : Rel P gl N g s a w) (hc : chkBuild P N o d z parts = true) (he : ev gl s (.build d z parts) = some s') : Sim1 P gl N o g a w s' := by
  simp only [chkBuild, Bool.and_eq_true] at hc
  obtain ⟨hd, hop⟩ := hc
  split at hop
  · rename_i t ps ho
    simp only [Bool.and_eq_true] at hop
    obtain ⟨hz, hk⟩ := hop
    obtain ⟨i, zv, p1, p2, p3, p4, p5⟩ := zeroOk_spec (g := g) hz
    rcases Bool.or_eq_true _ _ ▸ hk with hk | hk
    rotate_left
    · unfold arrBOk at hk
      split at hk
      · rename_i m e hu
        split at hk
        · rename_i j hj
          obtain ⟨cs, e1, e2⟩ := bind_some he
          obtain ⟨B, q1, q2, q3⟩ := fill_arr h j.size parts ps.toList z cs zv.cells hk e1 p3 p4
          refine .value h hd e2 (v := .agg B) ?_ (by have := VR.agg cs B.toList q2 q3; simpa using this) (fun _ _ _ h => by simp at h)
          have hps : (ps.map fun (i, x) => (i, a.eval x)).toList = ps.toList.map fun (i, x) => (i, a.eval x) := by simp
          simp only [execOp, ho, Sem.run_bind, Instr.build, zeroValue, typeInfo, run_program, p1, Result.andThen_ok, Sem.run_pure, p2, run_underlying hu, Go.sizeOf, hj, hps, q1]
        · cases hk
      · cases hk
    unfold structOk at hk
    split at hk
    · rename_i fs hu
      simp only [Bool.and_eq_true, List.all_eq_true] at hk
      obtain ⟨hk1, hk2⟩ := hk
      obtain ⟨cs, e1, e2⟩ := bind_some he
      have hmap : (fs.mapM fun f => do pure (f.offset, ← Go.sizeOf f.type) : Sem (Array (Nat × Nat))).run P w = .ok (fs.map fun f => (f.offset, P.cellsOf f.type)) w := by
        refine run_mapM fun f hf => ?_
        obtain ⟨j, hj⟩ := Option.isSome_iff_exists.1 (hk1 f hf)
        simp [Go.sizeOf, typeInfo, hj, Program.cellsOf]
      obtain ⟨B, q1, q2, q3⟩ := fill_sound h fs (fs.map fun f => (f.offset, P.cellsOf f.type)) (fun i f hf => by simp [hf]) parts ps.toList z cs zv.cells hk2 e1 p3 p4
      refine .value h hd e2 (v := .agg B) ?_ (by have := VR.agg cs B.toList q2 q3; simpa using this) (fun _ _ _ h => by simp at h)
      have hps : (ps.map fun (i, x) => (i, a.eval x)).toList = ps.toList.map fun (i, x) => (i, a.eval x) := by simp
      simp only [execOp, ho, Sem.run_bind, Instr.build, zeroValue, typeInfo, run_program, p1, Result.andThen_ok, Sem.run_pure, p2, run_underlying hu, hmap, hps, q1]
    · cases hk
  · cases hop

def chkMkself (P : Program) (N : Nat) (o : Oper) (d : Nat) (c : Opd) (e sz : Nat) : Bool := dstIs N o d &&
  (match o.op with | .makeSlice t (.const (.int .i64 0)) c' => chkOpd c' c && elemOk P t e sz | _ => false)
theorem wrap_small {n : Int} (h0 : 0 ≤ n) (h1 : n ≤ M) : IntKind.i64.wrap n = n := by
  unfold M at h1
  have : IntKind.i64.wrap n = n := by
    simp [IntKind.wrap, IntKind.bits, IntKind.signed]
    omega
  exact this
theorem run_makeSlice {t e : TypeId} {i : TypeInfo} {z : Value} {k : IntKind} {n : Int} (hu : P.underlying t = some (.slice e)) (hi : P.info? e = some i) (hz : i.zero = some z)
    (hb : i.bytes ≤ 128) (h0 : 0 ≤ n) (h1 : n ≤ M) :
    ∃ arr : Array Value, arr.size = n.toNat * i.size ∧ (Instr.makeSlice t (.int .i64 0) (.int k n)).run P w = .ok (.slice (some ⟨w.heap.size, 0, none⟩) 0 n.toNat) (w.alloc (.cells arr e)) := by
  refine ⟨(Array.range (n.toNat * i.size)).map ((if n.toNat * i.size = 0 then #[] else z.cells)[· % (if n.toNat * i.size = 0 then #[] else z.cells).size]!), by simp, ?_⟩
  have hw := wrap_small h0 h1
  have hw0 : IntKind.i64.wrap 0 = 0 := by decide
  have hM : (M : Int) = 1099511627776 := rfl
  have hbn : ((i.bytes : Nat) : Int) * n ≤ 128 * 1099511627776 := by
    have h2 : ((i.bytes : Nat) : Int) * n ≤ 128 * n := Int.mul_le_mul_of_nonneg_right (by omega) h0
    omega
  have h3 : ¬ (n < 0 ∨ ((i.bytes : Nat) : Int) * n > 2 ^ 48) := by
    rintro (h | h)
    · omega
    · have : (2 : Int) ^ 48 = 281474976710656 := by decide
      rw [this] at h; omega
  have h4 : n.toNat * i.bytes ≤ roomBytes := by
    have : ((n.toNat * i.bytes : Nat) : Int) = ((i.bytes : Nat) : Int) * n := by rw [Int.natCast_mul, Int.toNat_of_nonneg h0, Int.mul_comm]
    have h5 : roomBytes = 140737488355328 := by decide
    omega
  have h6 : ¬ (n < 0) := by omega
  have h7 : ¬ (((i.bytes : Nat) : Int) * n > 2 ^ 48) := fun h => h3 (.inr h)
  simp only [Instr.makeSlice, Sem.run_bind, run_underlying hu, Result.andThen_ok, asInt, asIntOf, Sem.run_pure, typeInfo, run_program, hi, hw, hw0]
  simp only [h6, h7, decide_false, Bool.or_false, Bool.false_eq_true, if_false, Int.lt_irrefl, Bool.false_or]
  by_cases hn0 : n.toNat * i.size = 0
  · simp [askRoom, show ¬ n.toNat * i.bytes > roomBytes by omega, Go.sizeOf, typeInfo, hi, hn0, newRow, newObj, Sem.run]
  · simp [askRoom, show ¬ n.toNat * i.bytes > roomBytes by omega, Go.sizeOf, typeInfo, hi, hn0, newRow, newObj, Sem.run, zeroValue, hz]
end
end AM
/-! The simulation of made slices and appends. -/
namespace AM
open Go
section
variable {P : Program} {gl : Glob} {N : Nat} {g g' : Gh} {s s' : St} {a : Act} {w w' : World} {o : Oper}

theorem sim_mkself {d e sz : Nat} {c : Opd} (h : Rel P gl N g s a w) (hc : chkMkself P N o d c e sz = true) (he : ev gl s (.mkself d c e sz) = some s') : Sim1 P gl N o g a w s' := by
  simp only [chkMkself, Bool.and_eq_true] at hc
  obtain ⟨hd, hop⟩ := hc
  split at hop
  · rename_i t c' ho
    simp only [Bool.and_eq_true] at hop
    obtain ⟨hx, hk⟩ := hop
    obtain ⟨hu, hk⟩ := elemOk_spec hk
    obtain ⟨i, z, r1, r2, r3, r4, r5, r6⟩ := okElem_spec hk
    simp only [ev] at he
    split at he
    · rename_i k n hn
      split at he
      · rename_i hb
        have hv := (evO_sound h hx hn).int_inv
        obtain ⟨arr, m1, m2⟩ := run_makeSlice (P := P) (w := w) (k := k) hu r1 r4 r6 hb.1 hb.2
        simp only [dstIs, Bool.and_eq_true, beq_iff_eq, decide_eq_true_eq] at hd
        obtain ⟨q1, q2⟩ := h.alloc (.cells arr e) (.var d)
        refine ⟨.slice (some ⟨w.heap.size, 0, none⟩) 0 n.toNat, _, _, .inl ?_, q1, ?_⟩
        · have h0 : a.eval (.const (.int .i64 0)) = .int .i64 0 := rfl
          simp only [execOp, ho, Sem.run_bind, hv, h0, m2]; rfl
        · rw [hd.1]
          refine q2.put he hd.2 (.own _ _ _ _ (.list0 _ _ _)) ?_
          intro e' sz' xs hx'
          simp at hx'; obtain ⟨rfl, rfl, rfl⟩ := hx'
          refine ⟨i, z, [], r1, r2, r3, r4, r5, r6, by simp, World.ownsRow_made w arr n.toNat (Nat.zero_le _) (by have := hb.2; unfold M at this; unfold maxLen; omega) (by rw [m1, r2]), fun b hb' => ?_⟩
          simp [Value.ownBlock] at hb'; subst hb'
          exact ⟨by simp [Gh.setO], .nil _ _ _, fun off _ => h.gnone off⟩
      · cases he
    · cases he
  · cases hop

/-- An append that has something to append: where the result lies. -/
theorem run_app {t ty e : TypeId} {i : TypeInfo} {z : Value} (hu : P.underlying t = some (.slice e)) (hi : P.info? e = some i) (hz : i.zero = some z) (hzs : z.cells.size = i.size)
    {v : Value} {n : Nat} {xs : List Value} (hown : w.ownsRow 0 e i.size v n xs) {ad : Addr} {m c : Nat} {news : List Value} (hl : news.length = m * i.size)
    (hnews : ∀ j u, news[j]? = some u → w.cell? (ad.add j) = some u) (h1 : ∀ u ∈ news, u.oneCell' = true) (hm : 0 < m) (h63 : n + m ≤ M) (hb : i.bytes ≤ 128) :
    ∃ v' w', (Builtin.append_ #[t, t] ty #[v, .slice (some ad) m c]).run P w = .ok v' w' ∧ w'.ownsRow 0 e i.size v' (n + m) (xs ++ news) ∧ w.heap.size ≤ w'.heap.size ∧
      ((v'.ownBlock = v.ownBlock ∧ v.ownBlock ≠ none ∧ ∀ k, some k ≠ v.ownBlock → w'.heap[k]? = w.heap[k]?) ∨ (v'.ownBlock = some w.heap.size ∧ w.heap.size < w'.heap.size ∧ ∀ k, k < w.heap.size → w'.heap[k]? = w.heap[k]?)) ∧ ((w'.os, w'.tape) = (w.os, w.tape) ∧ w'.output = w.output) := by
  unfold M at h63
  have hbytes : (n + m) * i.bytes ≤ 140737488355328 := by
    calc (n + m) * i.bytes ≤ 1099511627776 * 128 := Nat.mul_le_mul (by omega) hb
      _ = 140737488355328 := by decide
  have hmax : n + m ≤ maxLen := by unfold maxLen; omega
  have hlen : (xs ++ news).length = (n + m) * i.size := by rw [List.length_append, hown.1, hl, Nat.add_mul]
  have grown : ∀ (old : Nat), old < n + m →
      (w.drew.alloc (.cells (xs.toArray ++ news.toArray ++ Builtin.zeroCells z.cells (grownCap w (n + m) old e - (n + m))) e)).ownsRow 0 e i.size
        (.slice (some ⟨w.heap.size, 0, none⟩) (n + m) (grownCap w (n + m) old e)) (n + m) (xs ++ news) := by
    intro old ho
    have hge := grownCap_ge w (n + m) old e
    have hcm : grownCap w (n + m) old e ≤ maxLen := grownCap_le_maxLen w (n + m) old e hmax
    refine ⟨hlen, .inr ⟨w.heap.size, _, _, rfl, Nat.zero_le _, heap_alloc_new w.drew _, hge, hcm, ?_, ?_⟩⟩
    · simp only [Array.size_append, List.size_toArray, size_zeroCells, hzs, hown.1, hl, ← Nat.add_mul]
      congr 1; omega
    · simp only [Array.toList_append, List.append_assoc]
      rw [← List.append_assoc, ← hlen]
      exact List.take_left
  rcases hown.2 with ⟨rfl, rfl⟩ | ⟨g, cap, cur, rfl, hbg, hg, hnc, hcm, hcs, htake⟩
  · have hx : xs = [] := List.eq_nil_of_length_eq_zero (by simpa using hown.1)
    subst hx
    have hr := run_append_nil (P := P) w t ty e i z hu hi hz ad m c news hl hnews hm (by omega) (by simp only [Nat.zero_add] at hbytes; omega)
    have hgr := grown 0 (by omega)
    simp only [Nat.zero_add, List.nil_append, Array.empty_append] at hgr ⊢
    exact ⟨_, _, hr, hgr, by rw [alloc_size]; show w.heap.size ≤ w.heap.size + 1; omega, .inr ⟨rfl, by rw [alloc_size]; show w.heap.size < w.heap.size + 1; omega, fun k hk => heap_alloc_old w.drew _ k hk⟩, rfl, rfl⟩
  · by_cases hroom : n + m ≤ cap
    · have hfit : n * i.size + news.length ≤ cur.size := by rw [hl, hcs, ← Nat.add_mul]; exact Nat.mul_le_mul_right _ hroom
      have hr := run_append_room (P := P) w t ty e i hu hi g n cap cur hg ad m c news hl hnews h1 hroom hfit
      refine ⟨_, _, hr, ⟨hlen, .inr ⟨g, cap, _, rfl, Nat.zero_le _, setRow_heap w g cur _ e _ hg, hroom, hcm, ?_, ?_⟩⟩, by simp, .inl ⟨rfl, by simp [Value.ownBlock], fun k hk => setRow_other w g k _ (fun e => hk (by simp [Value.ownBlock, e]))⟩, rfl, rfl⟩
      · simp only [List.size_toArray, List.length_append, List.length_take, List.length_drop, Array.length_toList]
        omega
      · rw [htake, ← hlen]
        exact List.take_left
    · have holds : ∀ j u, xs[j]? = some u → w.cell? ((⟨g, 0, none⟩ : Addr).add j) = some u := hown.cells (g := g) rfl
      have hr := run_append_grow (P := P) w t ty e i z hu hi hz ⟨g, 0, none⟩ n cap xs hown.1 holds ad m c news hl hnews (by omega) (by omega) (growslice_fits (by omega) hbytes)
      exact ⟨_, _, hr, grown cap (by omega), by rw [alloc_size]; show w.heap.size ≤ w.heap.size + 1; omega, .inr ⟨rfl, by rw [alloc_size]; show w.heap.size < w.heap.size + 1; omega, fun k hk => heap_alloc_old w.drew _ k hk⟩, rfl, rfl⟩

/-- An append of nothing. -/
theorem run_app_zero {t ty e : TypeId} {i : TypeInfo} (hu : P.underlying t = some (.slice e)) (hi : P.info? e = some i) {v : Value} {n : Nat} {xs : List Value} (hown : w.ownsRow 0 e i.size v n xs) (base : Option Addr) (c : Nat) :
    (Builtin.append_ #[t, t] ty #[v, .slice base 0 c]).run P w = .ok v w := by
  have hb : ∀ (s : Option Addr) (k cap : Nat), k ≤ cap → (Builtin.append_ #[t, t] ty #[.slice s k cap, .slice base 0 c]).run P w = .ok (.slice s k cap) w := by
    intro s k cap hk
    cases base <;> cases s <;> simp [Builtin.append_, run_underlying hu, Go.sizeOf, typeInfo, hi, Builtin.lenOf, hk, Builtin.firstCells, loadCells, loadCellsFrom, storeCells]
  rcases hown.2 with ⟨rfl, rfl⟩ | ⟨g, cap, cur, rfl, hbg, hg, hnc, hcm, hcs, htake⟩
  · exact hb none 0 0 (by omega)
  · exact hb _ n cap hnc

/-- The values of immutable cells. -/
theorem PRc.vals {γ : Gam} : ∀ {cs : List AV} {b off : Nat}, PRc γ b off cs → ∃ us : List Value, us.length = cs.length ∧ PRs γ cs us ∧ (∀ v ∈ us, v.oneCell' = true) ∧ ∀ j u, us[j]? = some u → γ b (off + j) = some u
  | [], _, _, _ => ⟨[], rfl, .nil, by simp, by simp⟩
  | c :: cs, b, off, .cons _ _ _ _ v h1 h2 h3 h4 => by
    obtain ⟨us, q1, q2, q3, q4⟩ := PRc.vals h4
    refine ⟨v :: us, by simp [q1], .cons _ _ _ _ h2 h3 q2, by simpa [h2] using q3, fun j u hu => ?_⟩
    cases j with
    | zero => simp at hu; subst hu; exact h1
    | succ j => have := q4 j u (by simpa using hu); rw [← this]; congr 1; omega
theorem PRr.vals {γ : Gam} {sz : Nat} : ∀ {xs : List AV} {b off : Nat}, PRr γ b off sz xs → ∃ rows : List (List Value), xs.length = rows.length ∧
    (∀ (i : Nat) x r, xs[i]? = some x → rows[i]? = some r → x.cells.length = sz ∧ PRs γ x.cells r ∧ r.length = sz) ∧ (∀ r ∈ rows, ∀ v ∈ r, v.oneCell' = true) ∧
    rows.flatten.length = xs.length * sz ∧ ∀ j u, rows.flatten[j]? = some u → γ b (off + j) = some u
  | [], _, _, _ => ⟨[], rfl, by simp, by simp, by simp, by simp⟩
  | x :: xs, b, off, .cons _ _ _ _ _ h1 h2 h3 => by
    obtain ⟨us, p1, p2, p3, p4⟩ := h2.vals
    obtain ⟨rows, q1, q2, q3, q4, q5⟩ := PRr.vals h3
    refine ⟨us :: rows, by simp [q1], fun i y r hy hr => ?_, fun r hr v hv => ?_, by simp [q4, p1, h1, Nat.add_mul, Nat.add_comm], fun j u hu => ?_⟩
    · cases i with
      | zero => simp at hy hr; subst hy hr; exact ⟨h1, p2, by omega⟩
      | succ i => exact q2 i y r (by simpa using hy) (by simpa using hr)
    · rcases List.mem_cons.1 hr with rfl | hr
      · exact p3 v hv
      · exact q3 r hr v hv
    · rw [List.flatten_cons] at hu
      by_cases hj : j < us.length
      · rw [List.getElem?_append_left hj] at hu; exact p4 j u hu
      · rw [List.getElem?_append_right (by omega)] at hu
        have := q5 _ u hu
        rw [← this]; congr 1; omega
theorem PRs.mono {γ γ' : Gam} (h : GamLe γ γ') : ∀ {cs : List AV} {ws : List Value}, PRs γ cs ws → PRs γ' cs ws
  | [], _, .nil => .nil
  | _ :: _, _, .cons _ _ _ _ h1 h2 h3 => .cons _ _ _ _ h1 (h2.mono h) (PRs.mono h h3)
theorem PRr.append {γ : Gam} {b sz : Nat} : ∀ {xs ys : List AV} {off : Nat}, PRr γ b off sz xs → PRr γ b (off + xs.length * sz) sz ys → PRr γ b off sz (xs ++ ys)
  | [], ys, off, _, h => by simpa using h
  | x :: xs, ys, off, .cons _ _ _ _ _ h1 h2 h3, h => .cons _ _ _ _ _ h1 h2 (PRr.append h3 (by
      have : off + (x :: xs).length * sz = off + sz + xs.length * sz := by simp [Nat.add_mul]; omega
      rwa [this] at h))
end
end AM
/-! The simulation of appends. -/
namespace AM
open Go
section
variable {P : Program} {gl : Glob} {N : Nat} {g g' : Gh} {s s' : St} {a : Act} {w w' : World} {o : Oper}

/-- The ghost after an append: block b holds the cells 'news', and is owned by 'ow'. -/
def Gh.app (g : Gh) (b : Nat) (cells : List Value) (ow : Owner) : Gh :=
  { g with γ := fun k off => if k = b then cells[off]? else g.γ k off, Ω := fun k => if k = b then ow else g.Ω k }

/-- What a list owns, with its elements' cells. -/
theorem OwnR.cells (h : Rel P gl N g s a w) {ow : Owner} {e sz : Nat} {xs : List AV} {v : Value} (ho : OwnR P g w ow (.list (some e) sz xs) v) :
    ∃ i z vs, P.info? e = some i ∧ i.size = sz ∧ 0 < sz ∧ i.zero = some z ∧ z.cells.size = sz ∧ i.bytes ≤ 128 ∧ w.ownsRow 0 e sz v xs.length vs ∧
      (∀ b, v.ownBlock = some b → g.Ω b = ow ∧ ∀ off, g.γ b off = vs[off]?) ∧
      (∀ γ' b', (GamLe g.γ γ') → (∀ j u, vs[j]? = some u → γ' b' j = some u) → PRr γ' b' 0 sz xs) := by
  obtain ⟨i, z, vs, h1, h2, h3, h4, h5, h6, h6', h7, h8⟩ := ho e sz xs rfl
  refine ⟨i, z, vs, h1, h2, h3, h4, h5, h6, h7, fun b hb => ?_, fun γ' b' hle hg' => ?_⟩
  · obtain ⟨p1, p2, p3⟩ := h8 b hb
    refine ⟨p1, fun off => ?_⟩
    obtain ⟨rows, q1, q2, q3, q4, q5⟩ := p2.vals
    by_cases hlt : off < xs.length * sz
    · have hr : rows.flatten[off]? = some (rows.flatten[off]'(by omega)) := List.getElem?_eq_getElem (by omega)
      have hγ := q5 off _ hr
      rw [Nat.zero_add] at hγ
      have hcell := h.gam _ _ _ hγ
      have hvs : vs[off]? = some (vs[off]'(by rw [h7.1]; exact hlt)) := List.getElem?_eq_getElem _
      have := h7.cells hb off _ hvs
      rw [addr_add, Nat.zero_add, hcell] at this
      rw [hγ, hvs]; exact this
    · rw [p3 off (by omega), List.getElem?_eq_none (by rw [h7.1]; omega)]
  · cases hb : v.ownBlock with
    | none =>
      rcases h7.2 with ⟨_, h0⟩ | ⟨k, cap, cur, rfl, _⟩
      · rw [List.eq_nil_of_length_eq_zero h0]; exact .nil _ _ _
      · simp [Value.ownBlock] at hb
    | some b =>
      obtain ⟨p1, p2, p3⟩ := h8 b hb
      obtain ⟨rows, q1, q2, q3, q4, q5⟩ := p2.vals
      refine PRr.of_rows q1 (fun k x r hx hr => ?_) fun j u hu => ?_
      · obtain ⟨m1, m2, m3⟩ := q2 k x r hx hr; exact ⟨m1, m2.mono hle, m3⟩
      · have hγ := q5 j u hu
        rw [Nat.zero_add] at hγ ⊢
        have hcell := h.gam _ _ _ hγ
        have hj : j < vs.length := by rw [h7.1, ← q4]; exact (List.getElem?_eq_some_iff.1 hu).1
        have hvs : vs[j]? = some vs[j] := List.getElem?_eq_getElem hj
        have := h7.cells hb j _ hvs
        rw [addr_add, Nat.zero_add, hcell] at this
        exact hg' j u (by rw [hvs]; exact this.symm)

theorem strip_free (s : St) (x sz : Nat) (xs : List AV) : PosFree { s with env := s.env.ins x (.v (.list none sz xs)) } (.var x) :=
  ⟨fun t z ht hz => by simp at ht; subst ht; simp only [Env.get_ins] at hz; simp at hz; subst hz; exact NotOwn.none _ _, by simp, by simp, by simp, by simp, by simp⟩
def chkApp (P : Program) (N : Nat) (o : Oper) (d u : Nat) (x : Opd) (e sz : Nat) : Bool := dstIs N o d &&
  (match bcall o.op with | some (.append, [.tmp u', x'], [t, t']) => u' == u && t == t' && chkOpd x' x && elemOk P t e sz | _ => false)

/-- What a list or a nil slice is. -/
theorem VR.lst_inv {y : AV} {sz : Nat} {xs : List AV} {v : Value} (h : VR g y v) (hl : y.lst = some (sz, xs)) :
    ∃ base cap, v = .slice base xs.length cap ∧ (xs.length ≤ M ∧ xs.length ≤ cap) ∧ (xs = [] ∨ ∃ b off, base = some ⟨b, off, none⟩ ∧ PRr g.γ b off sz xs) := by
  unfold AV.lst at hl
  split at hl
  · simp at hl; obtain ⟨rfl, rfl⟩ := hl; exact h.list_inv
  · simp at hl; obtain ⟨rfl, rfl⟩ := hl
    exact ⟨none, 0, h.nils_inv, by simp, .inl rfl⟩
  · cases hl
/-- An append that adds elements: the ghost, and the relation after it. -/
theorem app_core {d u e : Nat} {xs ys : List AV} {v v' : Value} {i : TypeInfo} {z : Value} {vs : List Value} {rows : List (List Value)} (h : Rel P gl N g s a w) (hfree : PosFree s (.var u))
    (r1 : P.info? e = some i) (r3 : 0 < i.size) (r4 : i.zero = some z) (r5 : z.cells.size = i.size) (r6 : i.bytes ≤ 128) (r7 : w.ownsRow 0 e i.size v xs.length vs)
    (r8 : ∀ b, v.ownBlock = some b → g.Ω b = .var u ∧ ∀ off, g.γ b off = vs[off]?) (r9 : ∀ γ' b', (GamLe g.γ γ') → (∀ j y, vs[j]? = some y → γ' b' j = some y) → PRr γ' b' 0 i.size xs)
    (m1 : ys.length = rows.length) (m2 : ∀ (k : Nat) x r, ys[k]? = some x → rows[k]? = some r → x.cells.length = i.size ∧ PRs g.γ x.cells r ∧ r.length = i.size)
    (hM : xs.length + ys.length ≤ M) (k2 : w'.ownsRow 0 e i.size v' (xs.length + ys.length) (vs ++ rows.flatten)) (k3 : w.heap.size ≤ w'.heap.size) (k0 : (w'.os, w'.tape) = (w.os, w.tape) ∧ w'.output = w.output)
    (k4 : (v'.ownBlock = v.ownBlock ∧ v.ownBlock ≠ none ∧ ∀ k, some k ≠ v.ownBlock → w'.heap[k]? = w.heap[k]?) ∨ (v'.ownBlock = some w.heap.size ∧ w.heap.size < w'.heap.size ∧ ∀ k, k < w.heap.size → w'.heap[k]? = w.heap[k]?))
    (hd' : o.dst = some d ∧ d < N) (e2 : s.put d (.list (some e) i.size (xs ++ ys)) = some s') (hrun : (execOp a.eval o).run P w = .ok (.value v') w') : Sim1 P gl N o g a w s' := by
  have hnb : ∃ nb, v'.ownBlock = some nb := by
    rcases k4 with ⟨k5, k6, _⟩ | ⟨k5, _⟩
    · cases hv : v.ownBlock with
      | none => exact absurd hv k6
      | some b => exact ⟨b, by rw [k5, hv]⟩
    · exact ⟨_, k5⟩
  obtain ⟨nb, hnb⟩ := hnb
  -- the ghost grows
  have hold : ∀ b' off' y, g.γ b' off' = some y → b' = nb → v.ownBlock = some nb := by
    intro b' off' y hy' e
    subst e
    rcases k4 with ⟨k5, _⟩ | ⟨k5, _⟩
    · rw [← k5, hnb]
    · rw [k5] at hnb; simp at hnb; subst hnb
      rw [h.gnone] at hy'; cases hy'
  have hle : GhLe g (g.app nb (vs ++ rows.flatten) (.var d)) := ⟨fun b' off' y hy' => by
    by_cases e : b' = nb
    · have hv := hold _ _ _ hy' e
      subst e
      simp only [Gh.app, if_true]
      rw [(r8 _ hv).2] at hy'
      rw [List.getElem?_append_left (List.getElem?_eq_some_iff.1 hy').1]; exact hy'
    · simp [Gh.app, e, hy'], fun _ _ hh => hh⟩
  have hΩ : g.Ω nb = .none ∨ g.Ω nb = .var u := by
    rcases k4 with ⟨k5, _⟩ | ⟨k5, _⟩
    · right; exact (r8 nb (by rw [← k5, hnb])).1
    · left; rw [k5] at hnb; simp at hnb; subst hnb; exact h.onone
  have hblk : ∀ k, k ≠ nb → k < w.heap.size → w'.heap[k]? = w.heap[k]? := by
    intro k hk hlt
    rcases k4 with ⟨k5, _, k6⟩ | ⟨k5, _, k6⟩
    · exact k6 k (fun e => hk (by rw [← k5, hnb] at e; simpa using e))
    · exact k6 k hlt
  have hkept : ∀ k, g.Ω k ≠ .none → g.Ω k ≠ .var u → (g.app nb (vs ++ rows.flatten) (.var d)).Ω k = g.Ω k ∧ w'.heap[k]? = w.heap[k]? ∧ ∀ o, (g.app nb (vs ++ rows.flatten) (.var d)).γ k o = g.γ k o := by
    intro k hk1 hk2
    have hne : k ≠ nb := fun e => by subst e; rcases hΩ with hh | hh <;> simp [hh] at hk1 hk2
    exact ⟨by simp [Gh.app, hne], hblk k hne (h.own k hk1), fun _ => by simp [Gh.app, hne]⟩
  have hcells := k2.cells hnb
  have hgam' : ∀ b' off' y, (g.app nb (vs ++ rows.flatten) (.var d)).γ b' off' = some y → w'.cell? ⟨b', off', none⟩ = some y := by
    intro b' off' y hy'
    by_cases e : b' = nb
    · subst e
      simp only [Gh.app, if_true] at hy'
      have := hcells off' y hy'
      rwa [addr_add, Nat.zero_add] at this
    · simp [Gh.app, e] at hy'
      have hc := h.gam _ _ _ hy'
      unfold World.cell? at hc ⊢
      rw [hblk b' e (cell_lt (h.gam _ _ _ hy'))]; exact hc
  have h' := h.step (g' := g.app nb (vs ++ rows.flatten) (.var d)) (w' := w') (.var u) hfree hle (fun k hk => hkept k hk.1 hk.2) hgam' (fun k hk => by
    by_cases e : k = nb
    · subst e
      have := k2.lt k hnb; exact this.2
    · simp [Gh.app, e] at hk; have := h.own k hk; omega) h.rho
  have hgle : GLe g w (g.app nb (vs ++ rows.flatten) (.var d)) w' := ⟨hle, fun k hk => by
    obtain ⟨n1, n2, n3⟩ := hkept k (by rw [hk]; simp) (by rw [hk]; simp)
    exact ⟨n1.trans hk, n2, n3⟩, k3, k0.1, k0.2⟩
  -- the new list
  have hrowx : PRr (g.app nb (vs ++ rows.flatten) (.var d)).γ nb 0 i.size xs := r9 _ nb hle.γ fun j u hj => by
    simp only [Gh.app, if_true]
    rw [List.getElem?_append_left (List.getElem?_eq_some_iff.1 hj).1]; exact hj
  have hrowy : PRr (g.app nb (vs ++ rows.flatten) (.var d)).γ nb (0 + xs.length * i.size) i.size ys := by
    refine PRr.of_rows m1 (fun k x r hx hr => ?_) fun j u hj => ?_
    · obtain ⟨n1, n2, n3⟩ := m2 k x r hx hr; exact ⟨n1, n2.mono hle.γ, n3⟩
    · simp only [Gh.app, if_true]
      rw [Nat.zero_add, List.getElem?_append_right (by rw [r7.1]; omega), r7.1]
      rw [← hj]; congr 1; omega
  have hrow := PRr.append hrowx hrowy
  have hv' : ∃ cap', v' = .slice (some ⟨nb, 0, none⟩) (xs.length + ys.length) cap' ∧ xs.length + ys.length ≤ cap' := by
    rcases k2.2 with ⟨rfl, _⟩ | ⟨k, cap', cur, rfl, _, _, hc, _⟩
    · simp [Value.ownBlock] at hnb
    · simp [Value.ownBlock] at hnb; subst hnb; exact ⟨cap', rfl, hc⟩
  obtain ⟨cap', rfl, hcap'⟩ := hv'
  refine ⟨.slice (some ⟨nb, 0, none⟩) (xs.length + ys.length) cap', w', _, .inl hrun, hgle, ?_⟩
  rw [hd'.1]
  refine h'.put e2 hd'.2 (.own _ _ _ _ (.list_of (by simp) (by simpa using hM) (by simpa using hcap') hrow)) ?_
  intro e' sz' zs hz'
  simp at hz'; obtain ⟨rfl, rfl, rfl⟩ := hz'
  refine ⟨i, z, vs ++ rows.flatten, r1, rfl, r3, r4, r5, r6, by simpa using hM, by simpa using k2, fun b' hb' => ?_⟩
  rw [hnb] at hb'; simp at hb'; subst hb'
  refine ⟨by simp [Gh.app], hrow, fun off hoff => ?_⟩
  simp only [Gh.app, if_true]
  rw [List.getElem?_eq_none]
  rw [k2.1]; simpa using hoff

theorem sim_app {d u : Nat} {x : Opd} {e sz : Nat} (h : Rel P gl N g s a w) (hc : chkApp P N o d u x e sz = true) (he : ev gl s (.app d u x e sz) = some s') : Sim1 P gl N o g a w s' := by
  simp only [chkApp, Bool.and_eq_true] at hc
  obtain ⟨hd, hop⟩ := hc
  split at hop
  · rename_i u' x' t t' ho
    obtain ⟨cst, hrun⟩ := bcall_run (o := o) ho rfl a.eval
    simp only [Bool.and_eq_true, beq_iff_eq] at hop
    obtain ⟨⟨⟨rfl, rfl⟩, hx⟩, hk⟩ := hop
    obtain ⟨hu, hk⟩ := elemOk_spec hk
    have hd' := hd
    simp only [dstIs, Bool.and_eq_true, beq_iff_eq, decide_eq_true_eq] at hd'
    simp only [ev] at he
    split at he
    · rename_i e' sz' xs sz'' ys hs hy
      obtain ⟨y, hy, hyl⟩ := bind_some hy
      split at he
      · rename_i hb
        obtain ⟨rfl, rfl, rfl, hdu, hM⟩ := hb
        obtain ⟨s1, e1, e2⟩ := bind_some he
        obtain ⟨h3, h4⟩ := h.strip hs
        rw [h3] at e1; simp at e1; subst e1
        obtain ⟨v, p1, p2, p3⟩ := h.env _ _ hs
        obtain ⟨i, z, vs, r1, r2, r3, r4, r5, r6, r7, r8, r9⟩ := OwnR.cells h p3
        obtain ⟨base, cap, q1, q2, q3⟩ := VR.lst_inv (evO_sound h hx hy) hyl
        have hev : a.eval (.tmp u') = v := by simp [Act.eval, p1]
        subst r2
        by_cases hys : ys = []
        · subst hys
          have hr := run_app_zero (P := P) (w := w) (ty := o.type) hu r1 r7 base cap
          simp only [List.append_nil] at e2
          obtain ⟨g', m1, m2⟩ := h4.passTo (strip_free _ _ _ _) (by simp) (by simp) hd'.2 e2 p2 p3 ⟨_, _, _, rfl⟩
          refine ⟨v, w, g', .inl ?_, m1, by rw [hd'.1]; exact m2⟩
          rw [hrun]
          simp only [builtin, List.map_cons, List.map_nil, hev, q1, List.length_nil, Sem.run_bind, hr, Result.andThen_ok, Sem.run_pure]
        · rcases q3 with q3 | ⟨b, off, rfl, q4⟩
          · exact absurd q3 hys
          obtain ⟨rows, m1, m2, m3, m4, m5⟩ := q4.vals
          have hnews : ∀ j u, rows.flatten[j]? = some u → w.cell? ((⟨b, off, none⟩ : Addr).add j) = some u := fun j u hj => by rw [addr_add]; exact h.gam _ _ _ (m5 j u hj)
          have hone : ∀ u ∈ rows.flatten, u.oneCell' = true := fun u hu' => by
            obtain ⟨r, hr, hu''⟩ := List.mem_flatten.1 hu'
            exact m3 r hr u hu''
          have hpos : 0 < ys.length := by cases ys with | nil => exact absurd rfl hys | cons => simp
          obtain ⟨v', w', k1, k2, k3, k4, k0⟩ := run_app (P := P) (w := w) (ty := o.type) (c := cap) hu r1 r4 r5 r7 m4 hnews hone hpos hM r6
          refine app_core (rows := rows) h4 (strip_free _ _ _ _) r1 r3 r4 r5 r6 r7 r8 r9 m1 m2 hM k2 k3 k0 k4 hd' e2 ?_
          rw [hrun]
          simp only [builtin, List.map_cons, List.map_nil, hev, q1, Sem.run_bind, k1, Result.andThen_ok, Sem.run_pure]
      · cases he
    · rename_i sz' sz'' ys hs hy
      obtain ⟨y, hy, hyl⟩ := bind_some hy
      split at he
      · rename_i hb
        obtain ⟨rfl, rfl, hdu, hM⟩ := hb
        obtain ⟨v, p1, p2, _⟩ := h.env _ _ hs
        have p2 := p2.nils_inv
        subst p2
        have p3 := okElem_own hk g w (.var u')
        have hfree : PosFree s (.var u') := ⟨fun t z ht hz => by simp at ht; subst ht; rw [hs] at hz; simp at hz; subst hz; exact fun _ _ _ h => by simp at h, by simp, by simp, by simp, by simp, by simp⟩
        obtain ⟨i, z, vs, r1, r2, r3, r4, r5, r6, r7, r8, r9⟩ := OwnR.cells h p3
        obtain ⟨base, cap, q1, q2, q3⟩ := VR.lst_inv (evO_sound h hx hy) hyl
        have hev : a.eval (.tmp u') = .slice none 0 0 := by simp [Act.eval, p1]
        subst r2
        by_cases hys : ys = []
        · subst hys
          have hr := run_app_zero (P := P) (w := w) (ty := o.type) hu r1 r7 base cap
          refine ⟨.slice none 0 0, w, g, .inl ?_, .refl _ _, by rw [hd'.1]; exact h.put he hd'.2 (.own _ _ _ _ (.list0 _ _ _)) (okElem_own hk g w _)⟩
          rw [hrun]
          simp only [builtin, List.map_cons, List.map_nil, hev, q1, List.length_nil, Sem.run_bind, hr, Result.andThen_ok, Sem.run_pure]
        · rcases q3 with q3 | ⟨b, off, rfl, q4⟩
          · exact absurd q3 hys
          obtain ⟨rows, m1, m2, m3, m4, m5⟩ := q4.vals
          have hnews : ∀ j u, rows.flatten[j]? = some u → w.cell? ((⟨b, off, none⟩ : Addr).add j) = some u := fun j u hj => by rw [addr_add]; exact h.gam _ _ _ (m5 j u hj)
          have hone : ∀ u ∈ rows.flatten, u.oneCell' = true := fun u hu' => by
            obtain ⟨r, hr, hu''⟩ := List.mem_flatten.1 hu'
            exact m3 r hr u hu''
          have hpos : 0 < ys.length := by cases ys with | nil => exact absurd rfl hys | cons => simp
          obtain ⟨v', w', k1, k2, k3, k4, k0⟩ := run_app (P := P) (w := w) (ty := o.type) (c := cap) hu r1 r4 r5 r7 m4 hnews hone hpos (by simpa using hM) r6
          refine app_core (rows := rows) (xs := []) h hfree r1 r3 r4 r5 r6 r7 r8 r9 m1 m2 (by simpa using hM) k2 k3 k0 k4 hd' he ?_
          rw [hrun]
          simp only [builtin, List.map_cons, List.map_nil, hev, q1, Sem.run_bind, k1, Result.andThen_ok, Sem.run_pure]
      · cases he
    · cases he
  · cases hop
end
end AM
