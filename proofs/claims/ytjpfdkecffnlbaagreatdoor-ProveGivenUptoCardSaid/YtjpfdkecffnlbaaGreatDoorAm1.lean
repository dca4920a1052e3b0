/- An abstract machine for the program of the seat, and what of the given program it does, part 2 of 17. Conditions: none. -/
import Derived.Test.YtjpfdkecffnlbaaGreatDoorAm0
import Derived.Laws.StructEq
import Derived.Laws.Concat
set_option linter.unusedVariables false
set_option linter.unusedSimpArgs false
/-! The checker of operations, and the simulation of those that only compute. -/
namespace AM
open Go
def sU:Value→AV→Bool
 | .int k n,.int k' n'=>decide (k=k')&&n==n'
 | .bool b,.bool bE=>b==bE
 | .string s,.str l=>s.data.toList==l&&decide (l.length≤16384)
 | .pointer none,.dP=>true
 | .slice none 0 0,.list none _ []=>true
 | .map none,.eN=>true
 | .nilFunc,.gz=>true
 | .slice none 0 0,.aH _=>true
 | .nilIface,.gm=>true
 | _,_=>false
def const:Value→AV→Bool
 | .agg vs,.agg xs=>vs.size==xs.length&&(vs.toList.zip xs).all fun (v,x)=>sU v x
 | v,x=>sU v x
def cA:Operand→aq→Bool
 | .tmp t,.t n=>t==n
 | .const v,.c x=>const v x
 | .func f,.f n=>f==n
 | .global n,.g m=>n==m
 | _,_=>false
def b2 (N:Nat) (o:Oper) (d:Nat):Bool:=o.dst==some d&&decide (d<N)
def gQ (xs:List Operand) (ys:List aq):Bool:=xs.length==ys.length&&(xs.zip ys).all fun (x,y)=>cA x y
def hf (P:Program) (e sz:Nat):Bool :=
 match P.info? e with
 | some i=>i.size==sz&&decide (0<sz)&&(match i.zero with | some z=>z.cells.size==sz | none=>false)&&decide (i.bytes≤128)
 | none=>false
theorem By {α β:Type} {p:α×β→Bool}:∀{xs:List α} {ys:List β},xs.length=ys.length→(xs.zip ys).all p=true→∀(i:Nat) x y,xs[i]?=some x→ys[i]?=some y→p (x,y)=true
 | [],_,_,_,i,x,y,ai,_=>by simp at ai
 | x::xs,[],h,_,_,_,_,_,_=>by simp at h
 | x::xs,y::ys,h,aZ,i,a,b,ai,aT=>by
  simp only [List.zip_cons_cons,List.all_cons,Bool.and_eq_true] at aZ
  cases i with
  | zero=>simp at ai aT;subst ai aT;exact aZ.1
  | succ i=>exact By (by simpa using h) aZ.2 i a b (by simpa using ai) (by simpa using aT)
section
variable {γ:dp}
theorem Bz {v:Value} {x:AV} (h:sU v x=true):cp γ x v∧v.oneCell'=true:=by
 unfold sU at h
 split at h
 ·simp at h;obtain ⟨rfl,rfl⟩:=h;exact ⟨.int _ _,rfl⟩
 ·simp at h;subst h;exact ⟨.bool _,rfl⟩
 ·rename_i s l
  simp only [Bool.and_eq_true,beq_iff_eq,decide_eq_true_eq] at h
  obtain ⟨R,aa⟩:=h
  refine ⟨?_,rfl⟩
  have:Value.string s=.string ⟨l.toArray⟩:=by rw [←R]
  rw [this]
  exact .str l (by unfold M;omega)
 ·exact ⟨.dP,rfl⟩
 ·exact ⟨.fP _ _ _ (by simp),rfl⟩
 ·exact ⟨.eN,rfl⟩
 ·exact ⟨.gz,rfl⟩
 ·exact ⟨.aH _,rfl⟩
 ·exact ⟨.gm,rfl⟩
 ·cases h
theorem XT {ws:List Value}:∀{cs:List AV},ws.length=cs.length→(∀(i:Nat) w c,ws[i]?=some w→cs[i]?=some c→cp γ c w∧w.oneCell'=true)→e3 γ cs ws:=by
 induction ws with
 | nil=>intro cs h _;cases cs with | nil=>exact .nil | cons=>simp at h
 | cons w ws ih =>
  intro cs h bc
  cases cs with
  | nil=>simp at h
  | cons c cs =>
   have a0:=bc 0 w c (by simp) (by simp)
   exact .cons _ _ _ _ a0.2 a0.1 (ih (by simpa using h) fun i w c hw af=>bc (i+1) w c (by simpa using hw) (by simpa using af))
theorem BA {v:Value} {x:AV} (h:const v x=true):cp γ x v:=by
 unfold const at h
 split at h
 ·rename_i vs xs
  simp only [Bool.and_eq_true,beq_iff_eq] at h
  obtain ⟨R,aa⟩:=h
  have:vs=vs.toList.toArray:=by simp
  rw [this]
  exact .agg _ _ (XT (by simpa using R) fun i w c hw af=>Bz (By (by simpa using R) aa i w c hw af))
 ·exact (Bz h).1
end
section
variable {P:Program} {gl:aR} {N:Nat} {g:a5} {s s':ae} {a:Act} {w:World} {o:Oper}
theorem ca (h:Rel P gl N g s a w) {y:Operand} {x:aq} {u:AV} (af:cA y x=true) (he:bl gl s.env x=some u):aU g u (a.eval y):=by
 unfold cA at af
 split at af
 ·rename_i t n
  simp at af;subst af
  simp only [bl] at he
  split at he
  ·rename_i x ai
   simp at he;subst he
   obtain ⟨v,R,aa,_⟩:=h.env _ _ ai
   simp [Act.eval,R,aa]
  ·cases he
 ·simp only [bl] at he
  simp at he;subst he
  exact .pure _ _ (BA af)
 ·simp at af;subst af
  simp only [bl] at he
  simp at he;subst he
  exact .fn _ _ _ .nil
 ·simp at af;subst af
  simp only [bl] at he
  exact .pure _ _ (h.e4 _ _ he)
 ·cases af
theorem oV (h:Rel P gl N g s a w):∀{ys:List Operand} {xs:List aq} {us:List AV},gQ ys xs=true→dQ gl s.env xs=some us→bW g us (ys.map a.eval):=by
 intro ys
 induction ys with
 | nil =>
  intro xs us af he
  cases xs with
  | nil=>simp [dQ] at he;subst he;exact .nil
  | cons=>simp [gQ] at af
 | cons y ys ih =>
  intro xs us af he
  cases xs with
  | nil=>simp [gQ] at af
  | cons x xs =>
   simp only [gQ,List.length_cons,List.zip_cons_cons,List.all_cons,Bool.and_eq_true,beq_iff_eq] at af
   simp only [dQ] at he
   split at he
   ·rename_i v vs R aa
    simp at he;subst he
    exact .cons _ _ _ _ (ca h af.2.1 R) (ih (by simp [gQ,af.2.2];omega) aa)
   ·cases he
def cJ (P:Program) (gl:aR) (N:Nat) (o:Oper) (g:a5) (a:Act) (w:World) (s':ae):Prop :=
 ∃v w' g',((execOp a.eval o).run P w=.ok (.value v) w'∨((execOp a.eval o).run P w=.ok .skip w'∧v=undef))∧dj g w g' w'∧Rel P gl N g' s' (a.put o.dst v) w'
theorem cJ.value (h:Rel P gl N g s a w) {d:Nat} {x:AV} {v:Value} (aw:b2 N o d=true) (ao:s.put d x=some s') (aA:(execOp a.eval o).run P w=.ok (.value v) w)
  (ax:aU g x v) (aE:cc x):cJ P gl N o g a w s':=by
 simp only [b2,Bool.and_eq_true,beq_iff_eq,decide_eq_true_eq] at aw
 refine ⟨v,w,g,.inl aA,dj.refl _ _,?_⟩
 rw [aw.1]
 exact h.put ao aw.2 ax aE.fo
theorem bind_some {α β:Type} {x:Option α} {f:α→Option β} {b:β} (h:x.bind f=some b):∃a,x=some a∧f a=some b:=by
 cases x with
 | none=>cases h
 | some a=>exact ⟨a,rfl,h⟩
def sV (N:Nat) (o:Oper) (d:Nat) (x:aq):Bool:=b2 N o d&&(match o.op with | .move y | .assign y=>cA y x | _=>false)
theorem LD {d:Nat} {x:aq} (af:sV N o d x=true):b2 N o d=true∧∃y,cA y x=true∧(execOp a.eval o).run P w=.ok (.value (a.eval y)) w:=by
 simp only [sV,Bool.and_eq_true] at af
 obtain ⟨aw,af⟩:=af
 refine ⟨aw,?_⟩
 split at af
 ·rename_i y aT;exact ⟨y,af,by simp [execOp,aT]⟩
 ·rename_i y aT;exact ⟨y,af,by simp [execOp,aT]⟩
 ·cases af
theorem XU {d:Nat} {x:aq} (h:Rel P gl N g s a w) (af:sV N o d x=true) (he:au gl s (.I d x)=some s'):cJ P gl N o g a w s':=by
 obtain ⟨aw,y,aT,aA⟩:=LD (P:=P) (a:=a) (w:=w) af
 obtain ⟨u,R,aa⟩:=bind_some he
 exact .value h aw aa aA (ca h aT R).aL (cc.aL u)
theorem Rel.pass (h:Rel P gl N g s a w) (x y:dh) (ai:hX s x) (BB:x≠.outer) {b:Nat} (ah:g.bd b=x) (BC:x≠.none) :
  dj g w { g with bd:=fun k=>if k=b then y else g.bd k } w∧Rel P gl N { g with bd:=fun k=>if k=b then y else g.bd k } s a w:=by
 have hle:GhLe g { g with bd:=fun k=>if k=b then y else g.bd k }:=⟨fun _ _ _ h=>h,fun _ _ h=>h⟩
 refine ⟨⟨hle,fun k ab=>⟨?_,rfl,fun _=>rfl⟩,Nat.le_refl _,rfl,rfl⟩,?_⟩
 ·have:k≠b:=by rintro rfl;rw [ah] at ab;exact BB ab
  simp [this,ab]
 ·refine h.step x ai hle (fun k ab=>⟨?_,rfl,fun _=>rfl⟩) h.dY (fun k ab=>?_) h.er
  ·have:k≠b:=by rintro rfl;exact ab.2 ah
   simp [this]
  ·by_cases rk:k=b
   ·subst rk;exact h.own _ (by rw [ah];exact BC)
   ·simp [rk] at ab;exact h.own _ ab
theorem dX.pass {j0 ik:dh} {x:AV} {v:Value} (h:dX P g w j0 x v) (b:Nat) (ah:v.ownBlock=some b) :
  dX P { g with bd:=fun k=>if k=b then ik else g.bd k } w ik x v:=by
 intro e sz xs ai
 obtain ⟨i,z,vs,R,aa,al,aY,bn,cw,oT,dr,hL⟩:=h e sz xs ai
 refine ⟨i,z,vs,R,aa,al,aY,bn,cw,oT,dr,fun k ab=>?_⟩
 rw [ah] at ab;simp at ab;subst ab
 exact ⟨by simp,(hL b ah).2⟩
theorem dX.free {j0 ik:dh} {x:AV} {v:Value} (h:dX P g w j0 x v) (ah:v.ownBlock=none):dX P g w ik x v:=by
 intro e sz xs ai
 obtain ⟨i,z,vs,R,aa,al,aY,bn,cw,oT,dr,hL⟩:=h e sz xs ai
 exact ⟨i,z,vs,R,aa,al,aY,bn,cw,oT,dr,fun k ab=>by rw [ah] at ab;cases ab⟩
theorem Rel.sW (h:Rel P gl N g s a w) {x:dh} (ai:hX s x) (BB:x≠.outer) (BC:x≠.none) {d:Nat} {y:AV} {v:Value} (aw:d<N) (ao:s.put d y=some s')
  (ax:aU g y v) (aE:dX P g w x y v) (aT:∃e sz xs,y=.list (some e) sz xs):∃g',dj g w g' w∧Rel P gl N g' s' (a.put (some d) v) w:=by
 cases ah:v.ownBlock with
 | none=>exact ⟨g,dj.refl _ _,h.put ao aw ax (aE.free ah)⟩
 | some b =>
  obtain ⟨e,sz,xs,aT⟩:=aT
  obtain ⟨i,z,vs,R,aa,al,aY,bn,cw,oT,dr,hL⟩:=aE e sz xs aT
  obtain ⟨hle,cC⟩:=h.pass x (.var d) ai BB (hL b ah).1 BC
  exact ⟨_,hle,cC.put ao aw (ax.mono hle.toGhLe) (aE.pass b ah)⟩
theorem XV {d x:Nat} (h:Rel P gl N g s a w) (af:sV N o d (.t x)=true) (he:au gl s (.bg d x)=some s'):cJ P gl N o g a w s':=by
 obtain ⟨aw,y,aT,aA⟩:=LD (P:=P) (a:=a) (w:=w) af
 have iW:y=.tmp x:=by
  unfold cA at aT;split at aT<;>simp_all
 subst iW
 simp only [au] at he
 have dZ:=aw
 simp only [b2,Bool.and_eq_true,beq_iff_eq,decide_eq_true_eq] at dZ
 split at he
 ·rename_i e sz xs ai
  split at he
  ·cases he
  ·rename_i ck
   obtain ⟨s1,R,aa⟩:=bind_some he
   obtain ⟨al,aY⟩:=h.strip ai
   rw [al] at R;simp at R;subst R
   obtain ⟨v,aG,aJ,bo⟩:=h.env _ _ ai
   have jB:hX { s with env:=s.env.ins x (.v (.list none sz xs)) } (.var x) :=
    ⟨fun t z aF bx=>by simp at aF;subst aF;simp only [Env.fm] at bx;simp at bx;subst bx;exact cc.none _ _,by simp,by simp,by simp,by simp,by simp⟩
   obtain ⟨g',an,ar⟩:=aY.sW jB (by simp) (by simp) dZ.2 aa aJ bo ⟨e,sz,xs,rfl⟩
   refine ⟨v,w,g',.inl ?_,an,?_⟩
   ·rw [aA];simp [Act.eval,aG]
   ·rw [dZ.1];exact ar
 ·rename_i v ai ax
  have R:bl gl s.env (.t x)=some v:=by simp [bl,ax]
  exact .value h aw he aA (ca h aT R).aL (cc.aL v)
 ·cases he
def BD (P:Program) (N:Nat) (o:Oper) (d e sz:Nat):Bool:=b2 N o d&&hf P e sz&&(match o.op with | .move (.const (.slice none 0 0)) | .assign (.const (.slice none 0 0))=>true | _=>false)
theorem vl {e sz:Nat} (h:hf P e sz=true) (g:a5) (w:World) (o:dh):dX P g w o (.list (some e) sz []) (.slice none 0 0):=by
 intro bH b8 xs ai
 simp at ai;obtain ⟨rfl,rfl,rfl⟩:=ai
 unfold hf at h
 split at h
 ·rename_i i av
  simp only [Bool.and_eq_true,beq_iff_eq,decide_eq_true_eq] at h
  obtain ⟨⟨⟨R,aa⟩,al⟩,aY⟩:=h
  split at al
  ·rename_i z bx
   simp at al
   exact ⟨i,z,[],av,R,aa,bx,al,aY,by simp,World.ownsRow_nil _ _ _ _,fun b ah=>by simp [Value.ownBlock] at ah⟩
  ·cases al
 ·cases h
theorem XW {d e sz:Nat} (h:Rel P gl N g s a w) (af:BD P N o d e sz=true) (he:au gl s (.hr d e sz)=some s'):cJ P gl N o g a w s':=by
 simp only [BD,Bool.and_eq_true] at af
 obtain ⟨⟨aw,ab⟩,aD⟩:=af
 have aA:(execOp a.eval o).run P w=.ok (.value (.slice none 0 0)) w:=by
  split at aD
  ·rename_i aT;simp [execOp,aT,Act.eval]
  ·rename_i aT;simp [execOp,aT,Act.eval]
  ·cases aD
 simp only [b2,Bool.and_eq_true,beq_iff_eq,decide_eq_true_eq] at aw
 refine ⟨_,w,g,.inl aA,dj.refl _ _,?_⟩
 rw [aw.1]
 exact h.put he aw.2 (.own _ _ _ _ (.fP _ _ _ (by simp))) (vl ab _ _ _)
def BE (N:Nat) (o:Oper) (d:Nat) (c x y:aq):Bool:=b2 N o d&&(match o.op with | .pick fg a9 fc=>cA fg c&&cA a9 x&&cA fc y | _=>false)
theorem aU.kt {b:Bool} {v:Value} (h:aU g (.bool b) v):v=.bool b:=by
 cases h with | pure _ _ h=>cases h;rfl
theorem aU.hg {k:IntKind} {n:Int} {v:Value} (h:aU g (.int k n) v):v=.int k n:=by
 cases h with | pure _ _ h=>cases h;rfl
theorem aU.jC {l:List UInt8} {v:Value} (h:aU g (.str l) v):v=.string ⟨l.toArray⟩∧l.length≤M:=by
 cases h with | pure _ _ h=>cases h;exact ⟨rfl,‹_›⟩
theorem XX {d:Nat} {c x y:aq} (h:Rel P gl N g s a w) (af:BE N o d c x y=true) (he:au gl s (.pick d c x y)=some s'):cJ P gl N o g a w s':=by
 simp only [BE,Bool.and_eq_true] at af
 obtain ⟨aw,aD⟩:=af
 split at aD
 ·rename_i fg a9 fc aE
  simp only [Bool.and_eq_true] at aD
  obtain ⟨⟨R,aa⟩,al⟩:=aD
  simp only [au] at he
  split at he
  ·rename_i t aF
   have ah:=(ca h R aF).kt
   split at he
   ·rename_i nW;subst nW
    obtain ⟨u,aG,aJ⟩:=bind_some he
    exact .value h aw aJ (by simp [execOp,aE,ah,asBool]) (ca h aa aG).aL (cc.aL u)
   ·rename_i nW;simp at nW;subst nW
    obtain ⟨u,aG,aJ⟩:=bind_some he
    exact .value h aw aJ (by simp [execOp,aE,ah,asBool]) (ca h al aG).aL (cc.aL u)
  ·cases he
 ·cases aD
def BF (N:Nat) (o:Oper) (d:Nat) (x:aq):Bool:=b2 N o d&&(match o.op with | .unOp .not _ a9=>cA a9 x | _=>false)
theorem XY {d:Nat} {x:aq} (h:Rel P gl N g s a w) (af:BF N o d x=true) (he:au gl s (.cB d x)=some s'):cJ P gl N o g a w s':=by
 simp only [BF,Bool.and_eq_true] at af
 obtain ⟨aw,aD⟩:=af
 split at aD
 ·rename_i a9 aE
  simp only [au] at he
  split at he
  ·rename_i b ah
   have R:=(ca h aD ah).kt
   exact .value h aw he (by simp [execOp,aE,R,Op.unary]) (.pure _ _ (.bool _)) (fun _ _ _ h=>by simp at h)
  ·cases he
 ·cases aD
def BG (N:Nat) (o:Oper) (d:Nat) (x:aq):Bool:=b2 N o d&&(match o.op with | .unOp .neg _ a9=>cA a9 x | _=>false)
theorem XZ {d:Nat} {x:aq} (h:Rel P gl N g s a w) (af:BG N o d x=true) (he:au gl s (.neg d x)=some s'):cJ P gl N o g a w s':=by
 simp only [BG,Bool.and_eq_true] at af
 obtain ⟨aw,aD⟩:=af
 split at aD
 ·rename_i a9 aE
  simp only [au] at he
  split at he
  ·rename_i k n ah
   have R:=(ca h aD ah).hg
   exact .value h aw he (by simp [execOp,aE,R,Op.unary,Op.intArith]) (.pure _ _ (.int _ _)) (fun _ _ _ h=>by simp at h)
  ·cases he
 ·cases aD
def BH (P:Program) (N:Nat) (o:Oper) (d:Nat) (k:IntKind) (x:aq):Bool:=b2 N o d &&
 (match o.op with | .convert sX sY a9=>cA a9 x&&(P.underlying sX).isSome&&(match P.underlying sY with | some (.int k')=>decide (k'=k) | _=>false) | _=>false)
theorem X0 {d:Nat} {k:IntKind} {x:aq} (h:Rel P gl N g s a w) (af:BH P N o d k x=true) (he:au gl s (.conv d k x)=some s'):cJ P gl N o g a w s':=by
 simp only [BH,Bool.and_eq_true] at af
 obtain ⟨aw,aD⟩:=af
 split at aD
 ·rename_i sX sY a9 aE
  simp only [Bool.and_eq_true] at aD
  obtain ⟨⟨ai,aS⟩,yd⟩:=aD
  split at yd
  ·rename_i k' ab
   simp at yd;subst yd
   simp only [au] at he
   split at he
   ·rename_i k n ah
    have R:=(ca h ai ah).hg
    obtain ⟨fB,X1⟩:=Option.isSome_iff_exists.1 aS
    exact .value h aw he (by simp [execOp,aE,R,convert,run_underlying X1,run_underlying ab,Conv.intToInt]) (.pure _ _ (.int _ _)) (fun _ _ _ h=>by simp at h)
   ·cases he
  ·cases yd
 ·cases aD
end
end AM
/-! The simulation of arithmetic, lengths, strings, addresses and loads. -/
namespace AM
open Go
section
variable {P:Program} {gl:aR} {N:Nat} {g:a5} {s s':ae} {a:Act} {w:World} {o:Oper}
theorem toList_mk (l:List UInt8):(ByteArray.mk l.toArray).toList=l:=by rw [ByteArray.toList_eq]
def vm (P:Program) (t:TypeId):Nat:=match P.underlying t with | some (.int _)=>0 | some .string=>1 | some .bool=>2 | _=>3
def sZ (P:Program):Nat→List Nat→List Field→Bool
 | _,[],[]=>true
 | i,k::az,f::cu=>f.name != "_"&&f.offset==i&&decide (vm P f.type=k)&&decide (k<3)&&sZ P (i+1) az cu
 | _,_,_=>false
def LF (P:Program) (t:TypeId) (az:List Nat):Bool :=
 match P.underlying t with
 | some (.struct cu)=>!P.stoodInHeld t&&!P.eqGuardType P.depth t&&sZ P 0 az cu.toList
 | _=>false
def ye (P:Program) (m:Nat) (t:TypeId):Bool :=
 match m with
 | 0=>true
 | 2=>match P.underlying t with | some (.pointer _)=>true | _=>false
 | 3=>match P.underlying t with | some .bool=>true | _=>false
 | 4=>match P.underlying t with | some (.pointer e)=>(P.info? e).isSome | _=>false
 | _=>false
def BI (P:Program) (N:Nat) (o:Oper) (d m:Nat) (op:BinOp) (x y:aq):Bool:=b2 N o d &&
 (match o.op with | .binOp p6 t a9 fc _=>decide (p6=op)&&cA a9 x&&cA fc y&&ye P m t | _=>false)
theorem ku (b:Bool):cc (.bool b):=fun _ _ _ h=>by simp at h
theorem k0 (k:IntKind) (n:Int):cc (.int k n):=fun _ _ _ h=>by simp at h
theorem vn (l:List UInt8):cc (.str l):=fun _ _ _ h=>by simp at h
theorem X2 {op:BinOp} {k:IntKind} {x y:Int} {u:AV} (he:x6 op k x y=some u) (t:TypeId) (xo yo:Operand) :
  ∃v,(do eqGuard op t xo yo (.int k x) (.int k y);binOp op t (.int k x) (.int k y):Sem Value).run P w=.ok v w∧cp g.γ u v∧cc u:=by
 have aK:(eqGuard op t xo yo (.int k x) (.int k y)).run P w=.ok () w:=by cases op<;>simp [eqGuard]
 unfold x6 at he
 cases op<;>simp at he
 case quo =>
  obtain ⟨a0,he⟩:=he
  subst he
  exact ⟨_,by simp [aK,binOp,Op.intDiv,a0],.int _ _,k0 _ _⟩
 case rem =>
  obtain ⟨a0,he⟩:=he
  subst he
  exact ⟨_,by simp [aK,binOp,Op.intDiv,a0],.int _ _,k0 _ _⟩
 case shr =>
  obtain ⟨a0,he⟩:=he
  subst he;subst a0
  have R:min (Int.toNat 1) k.bits=1:=by cases k<;>rfl
  exact ⟨_,by simp only [Sem.run_bind,aK,Result.andThen_ok,binOp,Op.shift,R,Int.reduceLT,if_false,Sem.run_pure,Int.pow_succ,Int.pow_zero,Int.one_mul,Int.fdiv_eq_ediv_of_nonneg _ (show (0:Int)≤2 by decide)],.int _ _,k0 _ _⟩
 all_goals
  subst he
  simp only [Sem.run_bind,aK,Result.andThen_ok,binOp,ne_eq,not_true_eq_false,if_false,Op.intArith,Op.intCmp,Sem.run_pure]
  first
   | exact ⟨_,rfl,.int _ _,k0 _ _⟩
   | exact ⟨_,rfl,.bool _,ku _⟩
theorem X3 {op:BinOp} {x y:List UInt8} {u:AV} (he:x7 op x y=some u) (t:TypeId) (xo yo:Operand) :
  ∃v,(do eqGuard op t xo yo (.string ⟨x.toArray⟩) (.string ⟨y.toArray⟩);binOp op t (.string ⟨x.toArray⟩) (.string ⟨y.toArray⟩):Sem Value).run P w=.ok v w∧cp g.γ u v∧cc u:=by
 have aK:(eqGuard op t xo yo (.string ⟨x.toArray⟩) (.string ⟨y.toArray⟩)).run P w=.ok () w:=by cases op<;>simp [eqGuard]
 unfold x7 at he
 cases op<;>simp at he
 case add =>
  obtain ⟨a0,he⟩:=he
  subst he
  refine ⟨.string ⟨(x++y).toArray⟩,?_,.str _ (by simpa using a0),vn _⟩
  have R:(ByteArray.mk x.toArray).size+(ByteArray.mk y.toArray).size≤9223372036854775807:=by
   have:(ByteArray.mk x.toArray).size=x.length:=by simp [ByteArray.size]
   have:(ByteArray.mk y.toArray).size=y.length:=by simp [ByteArray.size]
   unfold M at a0;omega
  have aa:(ByteArray.mk x.toArray++ByteArray.mk y.toArray)=ByteArray.mk (x++y).toArray:=by
   apply ByteArray.ext;simp
  simp only [Sem.run_bind,aK,Result.andThen_ok,binOp,run_string_add_sum w _ _ R,aa]
 all_goals
  subst he
  simp only [Sem.run_bind,aK,Result.andThen_ok,binOp,Op.stringOp,Sem.run_pure,toList_mk,Bool.not_or]
  first
   | exact ⟨_,rfl,.bool _,ku _⟩
   | exact ⟨_,rfl,by simpa using cp.bool _,ku _⟩
theorem aU.jD {cs:List AV} {v:Value} (h:aU g (.agg cs) v):∃ws,v=.agg ws.toArray∧bW g cs ws∧∀x∈ws,x.oneCell'=true:=by
 cases h with
 | pure _ _ h =>
  cases h with
  | agg _ ws h =>
   refine ⟨ws,rfl,?_⟩
   induction ws generalizing cs with
   | nil=>cases h;exact ⟨.nil,by simp⟩
   | cons w ws ih =>
    cases h with
    | cons c cs _ _ R aa al =>
     obtain ⟨aG,aJ⟩:=ih al
     exact ⟨.cons _ _ _ _ (.pure _ _ aa) aG,by simpa [R] using aJ⟩
 | agg _ ws h R=>exact ⟨ws,rfl,h,R⟩
theorem bW.get {cs:List AV} {ws:List Value} (h:bW g cs ws):ws.length=cs.length∧∀(i:Nat) c,cs[i]?=some c→∃v,ws[i]?=some v∧aU g c v:=by
 induction ws generalizing cs with
 | nil=>cases h;simp
 | cons w ws ih =>
  cases h with
  | cons c cs _ _ R aa =>
   obtain ⟨aG,aJ⟩:=ih aa
   refine ⟨by simp [aG],fun i fg af=>?_⟩
   cases i with
   | zero=>simp at af;subst af;exact ⟨w,by simp,R⟩
   | succ i=>simpa using aJ i fg (by simpa using af)
theorem aU.m2 {id off:Nat} {v:Value} (h:aU g (.ptr id off) v):∃b,g.b4 id=some b∧v=ptrTo b off:=by
 cases h with
 | ptr _ _ b h=>exact ⟨b,h,rfl⟩
 | pure _ _ h=>cases h
theorem aU.vo {v:Value} (h:aU g .dP v):v=.pointer none:=by
 cases h with | pure _ _ h=>cases h;rfl
theorem run_equal_bool {t:TypeId} (hu:P.underlying t=some .bool) (x y:Bool):(Op.equal t (.bool x) (.bool y)).run P w=.ok (x==y) w :=
 run_equalIn_bool' w 9999 t x y hu
theorem X4 (d:Nat) {t e:TypeId} (hu:P.underlying t=some (.pointer e)) (b:Option Addr):(Op.equalIn (d+1) t (.pointer none) (.pointer b)).run P w=.ok b.isNone w:=by
 simp [Op.equalIn,run_underlying hu]
theorem X5 (d:Nat) {t e:TypeId} (hu:P.underlying t=some (.pointer e)) (b:Addr):(Op.equalIn (d+1) t (.pointer (some b)) (.pointer none)).run P w=.ok false w:=by
 simp [Op.equalIn,run_underlying hu]
theorem X6 {t e:TypeId} (hu:P.underlying t=some (.pointer e)) (b:Option Addr):(Op.equal t (.pointer none) (.pointer b)).run P w=.ok b.isNone w :=
 X4 9999 hu b
theorem X7 {t e:TypeId} (hu:P.underlying t=some (.pointer e)) (b:Addr):(Op.equal t (.pointer (some b)) (.pointer none)).run P w=.ok false w :=
 X5 9999 hu b
theorem vp {t:TypeId} {x y:Value} {xo yo:Operand} {r:Bool} (aK:(eqGuard .eql t xo yo x y).run P w=.ok () w)
  (ah:binOp .eql t x y=Value.bool <$> Op.equal t x y) (he:(Op.equal t x y).run P w=.ok r w) :
  (do eqGuard .eql t xo yo x y;binOp .eql t x y:Sem Value).run P w=.ok (.bool r) w:=by
 rw [Sem.run_bind,aK,Result.andThen_ok,ah,Sem.run_map,he];rfl
theorem vq {t:TypeId} {x y:Value} {xo yo:Operand} {r:Bool} (aK:(eqGuard .neq t xo yo x y).run P w=.ok () w)
  (ah:binOp .neq t x y=(fun a=>Value.bool !a) <$> Op.equal t x y) (he:(Op.equal t x y).run P w=.ok r w) :
  (do eqGuard .neq t xo yo x y;binOp .neq t x y:Sem Value).run P w=.ok (.bool (!r)) w:=by
 rw [Sem.run_bind,aK,Result.andThen_ok,ah,Sem.run_map,he];rfl
theorem X8 {op:BinOp} {e5 eQ:Bool} {u:AV} {t:TypeId} (hu:P.underlying t=some .bool) (xo yo:Operand)
  (he:(match op with | .eql=>some (AV.bool (e5==eQ)) | .neq=>some (AV.bool (!(e5==eQ))) | _=>none)=some u) :
  ∃v,(do eqGuard op t xo yo (.bool e5) (.bool eQ);binOp op t (.bool e5) (.bool eQ):Sem Value).run P w=.ok v w∧cp g.γ u v∧cc u:=by
 split at he
 ·simp at he;subst he
  exact ⟨_,vp (by simp [eqGuard]) (by simp [binOp]) (run_equal_bool hu e5 eQ),.bool _,ku _⟩
 ·simp at he;subst he
  exact ⟨_,vq (by simp [eqGuard]) (by simp [binOp]) (run_equal_bool hu e5 eQ),by simpa using cp.bool _,ku _⟩
 ·cases he
theorem BJ {op:BinOp} {aG aJ:Option Addr} {r:Bool} {u:AV} {t e:TypeId} (hu:P.underlying t=some (.pointer e)) (xo yo:Operand)
  (ao:(aG=none∧r=aJ.isNone)∨(aG.isSome∧aJ=none∧r=false))
  (he:(match op with | .eql=>some (AV.bool r) | .neq=>some (AV.bool (!r)) | _=>none)=some u) :
  ∃v,(do eqGuard op t xo yo (.pointer aG) (.pointer aJ);binOp op t (.pointer aG) (.pointer aJ):Sem Value).run P w=.ok v w∧cp g.γ u v∧cc u:=by
 have aA:(Op.equal t (.pointer aG) (.pointer aJ)).run P w=.ok r w:=by
  rcases ao with ⟨rfl,rfl⟩ | ⟨R,rfl,rfl⟩
  ·exact X6 hu aJ
  ·obtain ⟨b,rfl⟩:=Option.isSome_iff_exists.1 R
   exact X7 hu b
 split at he
 ·simp at he;subst he
  exact ⟨_,vp (by simp [eqGuard]) (by simp [binOp]) aA,.bool _,ku _⟩
 ·simp at he;subst he
  exact ⟨_,vq (by simp [eqGuard]) (by simp [binOp]) aA,by simpa using cp.bool _,ku _⟩
 ·cases he
theorem X9 (d:Nat) {t e:TypeId} (hu:P.underlying t=some (.pointer e)) (he:(P.info? e).isSome=true) (b:Addr):(Op.equalIn (d+1) t (.pointer (some b)) (.pointer (some b))).run P w=.ok true w:=by
 obtain ⟨i,av⟩:=Option.isSome_iff_exists.1 he
 have R:(sameAddr b b).run P w=.ok true w:=by simp [sameAddr]
 by_cases a0:i.size=0
 ·simp [Op.equalIn,run_underlying hu,Go.sizeOf,typeInfo,av,a0]
 ·simp [Op.equalIn,run_underlying hu,Go.sizeOf,typeInfo,av,a0,R]
theorem LG {t e:TypeId} (hu:P.underlying t=some (.pointer e)) (he:(P.info? e).isSome=true) (b:Addr):(Op.equal t (.pointer (some b)) (.pointer (some b))).run P w=.ok true w :=
 X9 9999 hu he b
theorem Ya {op:BinOp} {p:Addr} {u:AV} {t e:TypeId} (hu:P.underlying t=some (.pointer e)) (av:(P.info? e).isSome=true) (xo yo:Operand)
  (he:(match op with | .eql=>some (AV.bool true) | .neq=>some (AV.bool false) | _=>none)=some u) :
  ∃v,(do eqGuard op t xo yo (.pointer (some p)) (.pointer (some p));binOp op t (.pointer (some p)) (.pointer (some p)):Sem Value).run P w=.ok v w∧cp g.γ u v∧cc u:=by
 split at he
 ·simp at he;subst he
  exact ⟨_,vp (by simp [eqGuard]) (by simp [binOp]) (LG hu av p),.bool _,ku _⟩
 ·simp at he;subst he
  exact ⟨_,vq (by simp [eqGuard]) (by simp [binOp]) (LG hu av p),by simpa using cp.bool _,ku _⟩
 ·cases he
theorem LH {t:TypeId} (aF:vm P t<3) {cs:Array Value} {i:Nat} {c:Value} (af:cs[i]?=some c):(part t cs i).run P w=.ok c w:=by
 unfold vm at aF
 split at aF
 ·rename_i k hu;simp [part,isAgg,run_underlying hu,af]
 ·rename_i hu;simp [part,isAgg,run_underlying hu,af]
 ·rename_i hu;simp [part,isAgg,run_underlying hu,af]
 ·omega
theorem Yb {x y:AV} {r:Bool} {u v:Value} (h:ml x y=some r) (ai:aU g x u) (aT:aU g y v) {t:TypeId} (aF:jz x=vm P t) (d:Nat) :
  (Op.equalIn (d+1) t u v).run P w=.ok r w:=by
 unfold ml at h
 unfold vm at aF
 split at h
 ·simp at h;subst h
  rw [ai.kt,aT.kt]
  simp only [jz] at aF
  split at aF<;>simp at aF
  rename_i hu
  exact run_equalIn_bool' w d t _ _ hu
 ·split at h
  ·rename_i k a k' b ab;subst ab
   simp at h;subst h
   rw [ai.hg,aT.hg]
   simp only [jz] at aF
   split at aF<;>simp at aF
   rename_i hu
   exact run_equalIn_int w d t _ _ _ _ hu
  ·cases h
 ·simp at h;subst h
  rw [ai.jC.1,aT.jC.1]
  simp only [jz] at aF
  split at aF<;>simp at aF
  rename_i hu
  rw [run_equalIn_string w d t _ _ hu,toList_mk,toList_mk]
 ·cases h
theorem Yc (A B:Array Value) (d:Nat):∀(cu:List Field) (az:List Nat) (k:Nat) (xs ys:List AV) (us vs:List Value) (r:Bool),sZ P k az cu=true →
  nU az xs ys=some r→bW g xs us→bW g ys vs→(∀i,A[k+i]?=us[i]?)→(∀i,B[k+i]?=vs[i]?)→(Op.eqFields (d+1) A B cu).run P w=.ok r w:=by
 intro cu
 induction cu with
 | nil =>
  intro az k xs ys us vs r aP he _ _ _ _
  cases az with
  | cons=>simp [sZ] at aP
  | nil =>
   cases xs<;>cases ys<;>simp [nU] at he
   subst he;simp [Op.eqFields]
 | cons f cu ih =>
  intro az k xs ys us vs r aP he ai aT dk fZ
  cases az with
  | nil=>simp [sZ] at aP
  | cons kk az =>
   simp only [sZ,Bool.and_eq_true,bne_iff_ne,beq_iff_eq,decide_eq_true_eq] at aP
   obtain ⟨⟨⟨⟨R,aa⟩,al⟩,aY⟩,bn⟩:=aP
   cases xs with
   | nil=>simp [nU] at he
   | cons x xs=>cases ys with
    | nil=>simp [nU] at he
    | cons y ys =>
     simp only [nU] at he
     split at he
     ·rename_i ab
      split at he
      ·rename_i bf bu aB aI
       simp at he;subst he
       cases ai with
       | cons _ _ u us hu oW=>cases aT with
        | cons _ _ v vs ax fQ =>
         have LI:=dk 0
         have LJ:=fZ 0
         simp only [Nat.add_zero,List.getElem?_cons_zero] at LI LJ
         have aG:(part f.type A f.offset).run P w=.ok u w:=by rw [aa];exact LH (by omega) LI
         have aJ:(part f.type B f.offset).run P w=.ok v w:=by rw [aa];exact LH (by omega) LJ
         have bo:=Yb (P:=P) (w:=w) aB hu ax (t:=f.type) (by omega) d
         have cd:=ih az (k+1) xs ys us vs bu bn aI oW fQ (fun i=>by have:=dk (i+1);simpa [Nat.add_assoc,Nat.add_comm 1 i] using this)
          (fun i=>by have:=fZ (i+1);simpa [Nat.add_assoc,Nat.add_comm 1 i] using this)
         simp only [Op.eqFields,R,ne_eq,not_false_eq_true,if_true,Sem.run_bind,aG,Result.andThen_ok,aJ,bo]
         cases bf
         ·simp
         ·simp [cd]
      ·cases he
     ·cases he
def BK (P:Program) (N:Nat) (o:Oper) (d:Nat) (ne:Bool) (az:List Nat) (x y:aq):Bool:=b2 N o d &&
 (match o.op with | .binOp op t a9 fc _=>decide (op=if ne=true then .neq else .eql)&&cA a9 x&&cA fc y&&LF P t az | _=>false)
theorem run_eqGuard_agg {op:BinOp} {t:TypeId} {x y:Operand} {A B:Array Value} (h:P.eqGuardType P.depth t=false):(eqGuard op t x y (.agg A) (.agg B)).run P w=.ok () w:=by
 cases op<;>simp [eqGuard,run_program,h]
theorem Yd {d:Nat} {ne:Bool} {az:List Nat} {x y:aq} (h:Rel P gl N g s a w) (af:BK P N o d ne az x y=true) (he:au gl s (.kV d ne az x y)=some s'):cJ P gl N o g a w s':=by
 simp only [BK,Bool.and_eq_true] at af
 obtain ⟨aw,aD⟩:=af
 split at aD
 ·rename_i p6 t a9 fc _ aE
  simp only [Bool.and_eq_true,decide_eq_true_eq] at aD
  obtain ⟨⟨⟨yf,ai⟩,aT⟩,nX⟩:=aD
  unfold LF at nX
  split at nX
  ·rename_i cu hu
   simp only [Bool.and_eq_true,Bool.not_eq_true'] at nX
   obtain ⟨⟨vr,s0⟩,Ye⟩:=nX
   simp only [au] at he
   split at he
   ·rename_i xs ys R aa
    obtain ⟨r,ah,ao⟩:=bind_some he
    obtain ⟨us,aB,an,_⟩:=(ca h ai R).jD
    obtain ⟨vs,aI,ar,_⟩:=(ca h aT aa).jD
    have LK:P.fieldsOf t=cu:=by simp [Program.fieldsOf,hu]
    have aA:(Op.equal t (.agg us.toArray) (.agg vs.toArray)).run P w=.ok r w:=by
     show (Op.equalIn (9999+1) t _ _).run P w=_
     rw [run_equalIn_struct w 9999 t _ _ (by rw [LK];exact hu) vr,LK]
     exact Yc _ _ 9998 cu.toList az 0 xs ys us vs r Ye ah an ar (by simp) (by simp)
    refine .value h aw ao (v:=.bool (if ne=true then !r else r)) ?_ (.pure _ _ (.bool _)) (ku _)
    cases ne with
    | false =>
     simp at yf;subst yf
     simp only [execOp,aE,aB,aI]
     rw [Sem.run_bind,vp (run_eqGuard_agg s0) (by simp [binOp]) aA];rfl
    | true =>
     simp at yf;subst yf
     simp only [execOp,aE,aB,aI]
     rw [Sem.run_bind,vq (run_eqGuard_agg s0) (by simp [binOp]) aA];rfl
   ·cases he
  ·cases nX
 ·cases aD
theorem Yf {d m:Nat} {op:BinOp} {x y:aq} (h:Rel P gl N g s a w) (af:BI P N o d m op x y=true) (he:au gl s (.bin d m op x y)=some s'):cJ P gl N o g a w s':=by
 simp only [BI,Bool.and_eq_true] at af
 obtain ⟨aw,aD⟩:=af
 split at aD
 ·rename_i p6 t a9 fc _ aE
  simp only [Bool.and_eq_true,decide_eq_true_eq] at aD
  obtain ⟨⟨⟨rfl,ai⟩,aT⟩,nY⟩:=aD
  simp only [au] at he
  split at he
  ·rename_i cr cX R aa
   obtain ⟨u,ah,ao⟩:=bind_some he
   have v1:=ca h ai R
   have v2:=ca h aT aa
   suffices ∃v,(do eqGuard p6 t a9 fc (a.eval a9) (a.eval fc);binOp p6 t (a.eval a9) (a.eval fc):Sem Value).run P w=.ok v w∧cp g.γ u v∧cc u by
    obtain ⟨v,an,ar,aO⟩:=this
    exact .value h aw ao (by simp only [execOp,aE];rw [Sem.run_bind,an];rfl) (.pure _ _ ar) aO
   have BL:m=2→∃e,P.underlying t=some (.pointer e):=by
    rintro rfl
    simp only [ye] at nY
    split at nY
    ·rename_i e hu;exact ⟨e,hu⟩
    ·cases nY
   have Yg:m=4→∃e,P.underlying t=some (.pointer e)∧(P.info? e).isSome=true:=by
    rintro rfl
    simp only [ye] at nY
    split at nY
    ·rename_i e hu;exact ⟨e,hu,nY⟩
    ·cases nY
   unfold vi at ah
   split at ah
   ·split at ah
    ·rename_i ab
     obtain ⟨_,rfl⟩:=ab
     rw [v1.hg,v2.hg]
     exact X2 ah t a9 fc
    ·cases ah
   ·split at ah
    ·rw [v1.jC.1,v2.jC.1]
     exact X3 ah t a9 fc
    ·cases ah
   ·rename_i e5 eQ
    split at ah
    ·rename_i BM;subst BM
     simp only [ye] at nY
     split at nY
     ·rename_i hu
      rw [v1.kt,v2.kt]
      exact X8 hu a9 fc ah
     ·cases nY
    ·cases ah
   ·split at ah
    ·rename_i hN
     obtain ⟨e,hu⟩:=BL hN
     rw [v1.vo,v2.vo]
     exact BJ (r:=true) hu a9 fc (.inl ⟨rfl,rfl⟩) (by cases p6<;>simp_all)
    ·cases ah
   ·split at ah
    ·rename_i hN
     obtain ⟨e,hu⟩:=BL hN
     obtain ⟨b,_,ax⟩:=v2.m2
     rw [v1.vo,ax]
     exact BJ (r:=false) hu a9 fc (.inl ⟨rfl,rfl⟩) (by cases p6<;>simp_all)
    ·cases ah
   ·split at ah
    ·rename_i vt
     obtain ⟨vt,rfl,rfl⟩:=vt
     obtain ⟨e,hu,av⟩:=Yg vt
     obtain ⟨b,gC,ax⟩:=v1.m2
     obtain ⟨bE,fG,cF⟩:=v2.m2
     rw [gC] at fG;simp at fG;subst fG
     rw [ax,cF]
     exact Ya hu av a9 fc ah
    ·cases ah
   ·split at ah
    ·rename_i hN
     obtain ⟨e,hu⟩:=BL hN
     obtain ⟨b,_,ax⟩:=v1.m2
     rw [v2.vo,ax]
     exact BJ (r:=false) hu a9 fc (.inr ⟨rfl,rfl,rfl⟩) (by cases p6<;>simp_all)
    ·cases ah
   ·cases ah
  ·cases he
 ·cases aD
end
end AM
