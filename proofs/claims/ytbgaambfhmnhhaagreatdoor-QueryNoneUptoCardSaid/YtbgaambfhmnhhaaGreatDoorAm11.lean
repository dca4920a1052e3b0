/- An abstract machine for the program of the seat, and what of the given program it does, part 12 of 16. Conditions: none. -/
import Derived.Test.YtbgaambfhmnhhaaGreatDoorAm10
import Derived.RangeFuncNested
import Derived.RangeFuncLeaves
/-! slices.AppendSeq to nil, over a map's keys: a new slice of the keys in some order. Conditions: the map's values are bools. -/
namespace AM
open Go Go.RowKit
section
variable {P : Program} {gl : Glob} {N : Nat} {g g' : Gh} {s s' : St} {a : Act} {w w' : World} {F : Fence} {n : Nat} {Q : Exit → Act → World → Prop} {ops : Array Oper} {rest : List Oper} {o : Oper}

/-- An element: its cells; one cell is no struct. -/
def Elem (sz : Nat) (x : Value) : Prop := x.cells.size = sz ∧ (∀ c ∈ x.cells.toList, c.oneCell' = true) ∧ (sz = 1 → x.cells = #[x]) ∧ (sz ≠ 1 → x = .agg x.cells)
def flat (xs : List Value) : List Value := (xs.map (·.cells.toList)).flatten
theorem flat_app (xs : List Value) (x : Value) : flat (xs ++ [x]) = flat xs ++ x.cells.toList := by simp [flat]
theorem flat_len {sz : Nat} : ∀ {xs : List Value}, (∀ x ∈ xs, Elem sz x) → (flat xs).length = xs.length * sz
  | [], _ => by simp [flat]
  | x :: xs, h => by
    have h1 := flat_len (xs := xs) fun y hy => h y (by simp [hy])
    have h2 := (h x (by simp)).1
    simp only [flat, List.map_cons, List.flatten_cons, List.length_append, List.length_cons] at h1 ⊢
    rw [h1, Array.length_toList, h2, Nat.add_mul]; omega

/-- Between two rounds: the box holds a slice of what has come. -/
structure ApAt (e sz tS : Nat) (w0 : World) (xs : List Value) (W : World) : Prop where
  below : Below w0.heap.size w0 W
  box : ∃ v, W.heap[w0.heap.size]? = some (.cells #[v] tS (0, 0)) ∧ W.ownsRow (w0.heap.size + 1) e sz v xs.length (flat xs) ∧ (xs = [] → v = .slice none 0 0)
  elems : ∀ x ∈ xs, Elem sz x

theorem ApAt.own (e sz tS : Nat) (w0 : World) : OwnFrom (w0.heap.size + 1) (ApAt e sz tS w0) := fun xs W W' row h hg hrow => by
  obtain ⟨v, h1, h2, h3⟩ := h.box
  have hb : some w0.heap.size ≠ row := fun e => by have := (hrow _ e.symm).1; omega
  have hlt : w0.heap.size < W.heap.size := (Array.getElem?_eq_some_iff.1 h1).1
  refine ⟨h.below.grown hg h.below.size (fun k e => by have := (hrow k e).1; omega), ⟨v, (hg.block _ hlt hb).trans h1, h2.kept hg ?_, h3⟩, h.elems⟩
  rcases h2.2 with ⟨rfl, _⟩ | ⟨k, cap, cur, rfl, _, hk, _⟩
  · exact .inl rfl
  · refine .inr fun e => ?_
    obtain ⟨_, o, ho, hc⟩ := hrow k e.symm
    rw [hk] at ho; simp at ho; subst ho; cases hc

/-! The operations of the code. -/
def isBox (T x : Nat) : Op → Bool | .box t (.tmp y) => t == T && y == x | _ => false
def isAsgNil : Op → Bool | .assign (.const (.slice none 0 0)) => true | _ => false
def isMove (x : Nat) : Op → Bool | .move (.tmp y) => y == x | _ => false
def isAsg (x : Nat) : Op → Bool | .assign (.tmp y) => y == x | _ => false
def isLoad (T x : Nat) : Op → Bool | .load t (.tmp y) => t == T && y == x | _ => false
def isStore (T x v : Nat) : Op → Bool | .store t (.tmp y) (.tmp u) => t == T && y == x && u == v | _ => false
def isAlloc (T : Nat) : Op → Bool | .alloc t => t == T | _ => false
def isBuild1 (T x : Nat) : Op → Bool | .buildSlice t n ps => t == T && n == 1 && (match ps.toList with | [(k, .tmp y)] => k == 0 && y == x | _ => false) | _ => false
def isApp (T x y : Nat) (op : Op) : Bool := match bcall op with | some (.append, [.tmp u, .tmp v], [t, t']) => t == T && t' == T && u == x && v == y | _ => false
theorem evT {t : Nat} {v : Value} (h : a.tmps[t]? = some v) : a.eval (.tmp t) = v := by simp [Act.eval, Array.getD_eq_getD_getElem?, h]
section
variable {T x y u : Nat} {v : Value}
theorem run_isBox (h : isBox T x o.op = true) (hx : a.tmps[x]? = some v) : (execOp a.eval o).run P w = .ok (.value (ptrTo w.heap.size 0)) (w.alloc (.cells v.cells T)) := by
  unfold isBox at h
  split at h
  · rename_i t y' ho
    simp only [Bool.and_eq_true, beq_iff_eq] at h
    obtain ⟨rfl, rfl⟩ := h
    simp only [execOp, ho, evT hx, Sem.run_bind, run_box, Result.andThen_ok, Sem.run_pure]
  · cases h
theorem run_isAsgNil (h : isAsgNil o.op = true) : (execOp a.eval o).run P w = .ok (.value (.slice none 0 0)) w := by
  unfold isAsgNil at h
  split at h
  · rename_i ho; simp [execOp, ho, Act.eval]
  · cases h
theorem run_isMove (h : isMove x o.op = true) (hx : a.tmps[x]? = some v) : (execOp a.eval o).run P w = .ok (.value v) w := by
  unfold isMove at h
  split at h
  · rename_i y' ho
    simp only [beq_iff_eq] at h; subst h
    simp [execOp, ho, evT hx]
  · cases h
theorem run_isAsg (h : isAsg x o.op = true) (hx : a.tmps[x]? = some v) : (execOp a.eval o).run P w = .ok (.value v) w := by
  unfold isAsg at h
  split at h
  · rename_i y' ho
    simp only [beq_iff_eq] at h; subst h
    simp [execOp, ho, evT hx]
  · cases h
theorem run_isLoad1 {dsc : TypeDesc} {b : Nat} (h : isLoad T x o.op = true) (hx : a.tmps[x]? = some (ptrTo b 0)) (hu : P.underlying T = some dsc) (hag : (∀ fs, dsc ≠ .struct fs) ∧ ∀ n e, dsc ≠ .array n e)
    (hw : w.cell? ⟨b, 0, none⟩ = some v) : (execOp a.eval o).run P w = .ok (.value v) w := by
  unfold isLoad at h
  split at h
  · rename_i t y' ho
    simp only [Bool.and_eq_true, beq_iff_eq] at h
    obtain ⟨rfl, rfl⟩ := h
    simp only [execOp, ho, evT hx, Sem.run_bind, run_load_one hu hag hw, Result.andThen_ok, Sem.run_pure]
  · cases h
theorem run_isLoadN {i : TypeInfo} {fs : Array Field} {b : Nat} {ws : List Value} (h : isLoad T x o.op = true) (hx : a.tmps[x]? = some (ptrTo b 0)) (hi : P.info? T = some i) (hu : P.underlying T = some (.struct fs)) (hl : ws.length = i.size)
    (hw : ∀ j v, ws[j]? = some v → w.cell? ⟨b, 0 + j, none⟩ = some v) : (execOp a.eval o).run P w = .ok (.value (.agg ws.toArray)) w := by
  unfold isLoad at h
  split at h
  · rename_i t y' ho
    simp only [Bool.and_eq_true, beq_iff_eq] at h
    obtain ⟨rfl, rfl⟩ := h
    simp only [execOp, ho, evT hx, Sem.run_bind, run_load_cells hi hu hl hw (.inl ⟨fs, rfl⟩), Result.andThen_ok, Sem.run_pure]
  · cases h
theorem run_isStore {i : TypeInfo} {b : Nat} (h : isStore T x y o.op = true) (hx : a.tmps[x]? = some (ptrTo b 0)) (hy : a.tmps[y]? = some v) (hi : P.info? T = some i) (hn : v.cells.size = i.size)
    (hr : (storeCells ⟨b, 0, none⟩ v.cells.toList).run P w = .ok () w') : (execOp a.eval o).run P w = .ok .skip w' := by
  unfold isStore at h
  split at h
  · rename_i t y' v' ho
    simp only [Bool.and_eq_true, beq_iff_eq] at h
    obtain ⟨⟨rfl, rfl⟩, rfl⟩ := h
    simp only [execOp, ho, evT hx, evT hy, Sem.run_bind, run_storeAt hi hn hr, Result.andThen_ok, Sem.run_pure]
  · cases h
theorem run_isAlloc {i : TypeInfo} (h : isAlloc T o.op = true) (hi : P.info? T = some i) (hz : i.zero = some v) : (execOp a.eval o).run P w = .ok (.value (ptrTo w.heap.size 0)) (w.alloc (.cells v.cells T)) := by
  unfold isAlloc at h
  split at h
  · rename_i t ho
    simp only [beq_iff_eq] at h; subst h
    simp only [execOp, ho, Sem.run_bind, run_alloc hi hz, Result.andThen_ok, Sem.run_pure]
  · cases h
theorem run_isBuild1 {e : Nat} {i : TypeInfo} {z : Value} (h : isBuild1 T x o.op = true) (hx : a.tmps[x]? = some v) (hu : P.underlying T = some (.slice e)) (hi : P.info? e = some i) (hz : i.zero = some z) (hs : 0 < i.size) (hv : v.cells.size = i.size) (hn : i.size ≤ 2 ^ 24) :
    (execOp a.eval o).run P w = .ok (.value (.slice (some ⟨w.heap.size, 0, none⟩) 1 1)) (w.alloc (.cells v.cells e)) := by
  unfold isBuild1 at h
  split at h
  · rename_i t n ps ho
    simp only [Bool.and_eq_true, beq_iff_eq] at h
    obtain ⟨⟨rfl, rfl⟩, h⟩ := h
    split at h
    · rename_i k y' hps
      simp only [Bool.and_eq_true, beq_iff_eq] at h
      obtain ⟨rfl, rfl⟩ := h
      have hps' : ps = #[(0, .tmp y')] := by apply Array.ext'; simpa using hps
      subst hps'
      have := run_buildSlice (P := P) (w := w) (vs := [v]) hu hi hz hs (by simpa using hv) (by simpa using hn)
      simp only [List.length_cons, List.length_nil, Nat.zero_add, List.zipIdx_cons, List.zipIdx_nil, List.map_cons, List.map_nil, List.flatten_cons, List.flatten_nil, List.append_nil, Array.toArray_toList] at this
      simp only [execOp, ho, Sem.run_bind]
      rw [show (#[((0 : Nat), Operand.tmp y')].map fun (x : Nat × Operand) => (x.1, a.eval x.2)) = [(0, v)].toArray by simp [evT hx]]
      rw [this]; rfl
    · cases h
  · cases h
end

/-- The types: a slice and its elements. -/
structure SeqT (P : Program) (S E sz : Nat) (i : TypeInfo) (z : Value) : Prop where
  hS : P.underlying S = some (.slice E)
  iS : ∃ j, P.info? S = some j ∧ j.size = 1
  hE : P.info? E = some i
  size : i.size = sz
  pos : 0 < sz
  le : sz ≤ 2 ^ 24
  zero : i.zero = some z
  zsize : z.cells.size = sz
  bytes : i.bytes ≤ 128
  struct : sz ≠ 1 → ∃ fs, P.underlying E = some (.struct fs)
/-- Where the loop's variable stands. -/
def VarAt (sz E B : Nat) (x : Value) (a : Act) (W : World) : Prop :=
  (sz = 1 ∧ a.tmps[5]? = some x) ∨ (sz ≠ 1 ∧ ∃ b5, a.tmps[5]? = some (ptrTo b5 0) ∧ B < b5 ∧ W.heap[b5]? = some (.cells x.cells E (0, 0)))
def AxAt (N sz E B : Nat) (x : Value) (a : Act) (W : World) : Prop := a.tmps.size = N ∧ a.defers = [] ∧ a.tmps[2]? = some (ptrTo B 0) ∧ VarAt sz E B x a W
theorem AxAt.own (N sz E B C : Nat) (x : Value) (a : Act) : OwnFrom C (fun (_ : Unit) W => AxAt N sz E B x a W) := fun _ W W' row h hg hrow => by
  obtain ⟨h1, h2, h3, h4⟩ := h
  refine ⟨h1, h2, h3, h4.imp id fun ⟨q1, b5, q2, q3, q4⟩ => ⟨q1, b5, q2, q3, (hg.block b5 (Array.getElem?_eq_some_iff.1 q4).1 fun e => ?_).trans q4⟩⟩
  obtain ⟨_, o, ho, hc⟩ := hrow _ e.symm
  rw [q4] at ho; simp at ho; subst ho; cases hc
def chkAsg (N E sz : Nat) : List Oper → Bool
  | [u0] => sz == 1 && plainOp u0 && dstIs N u0 5 && isAsg 7 u0.op
  | [u0, u1] => sz != 1 && plainOp u0 && dstIs N u0 5 && isAlloc E u0.op && plainOp u1 && u1.dst == none && isStore E 5 7 u1.op
  | _ => false
def chkBody (N S E sz : Nat) : List Oper → Bool
  | [b0, b1, b2, b3, b4] => plainOp b0 && dstIs N b0 8 && isLoad S 2 b0.op && plainOp b1 && dstIs N b1 9 && (if sz = 1 then isMove 5 b1.op else isLoad E 5 b1.op) && plainOp b2 && dstIs N b2 10 && isBuild1 S 9 b2.op &&
      plainOp b3 && dstIs N b3 11 && isApp S 8 10 b3.op && plainOp b4 && b4.dst == none && isStore S 2 11 b4.op
  | _ => false
theorem dst_of {N d : Nat} (h : dstIs N o d = true) : o.dst = some d ∧ d < N := by simpa [dstIs] using h
/-- An operation with a known run. -/
theorem op_value (hF : ∀ f, F.fn f) (hp : plainOp o = true) {v : Value} (hr : (execOp a.eval o).run P w = .ok (.value v) w') (K : wpListIn F n P ops Q rest (a.put o.dst v) w') : wpListIn F n P ops Q (o :: rest) a w := by
  unfold wpListIn
  rw [if_pos (wanted_plain hp)]
  refine ⟨fun f _ => hF f, ?_⟩
  rw [Oper.semAt_eq _ _ _ (not_defer hp), hr]
  exact K
theorem op_skip (hF : ∀ f, F.fn f) (hp : plainOp o = true) (hd : o.dst = none) (hr : (execOp a.eval o).run P w = .ok .skip w') (K : wpListIn F n P ops Q rest a w') : wpListIn F n P ops Q (o :: rest) a w := by
  unfold wpListIn
  rw [if_pos (wanted_plain hp)]
  refine ⟨fun f _ => hF f, ?_⟩
  rw [Oper.semAt_eq _ _ _ (not_defer hp), hr]
  show wpListIn F n P ops Q rest (a.put o.dst undef) w'
  rw [hd]; exact K
theorem run_storeBlock {b t : Nat} {cur : Array Value} {us : Array Value} (hb : w.heap[b]? = some (.cells cur t (0, 0))) (hs : us.size = cur.size) (h1 : ∀ v ∈ us.toList, v.oneCell' = true) :
    (storeCells ⟨b, 0, none⟩ us.toList).run P w = .ok () (w.setRow b us) := by
  have := run_storeCells_at P b 0 t us.toList 0 cur w hb (by simpa using Nat.le_of_eq hs) h1
  simp only [Nat.add_zero, List.take_zero, List.nil_append] at this
  rw [this]
  congr 2
  have h2 : cur.toList.drop (0 + us.toList.length) = [] := by rw [List.drop_eq_nil_iff]; simp; omega
  rw [h2]; simp
theorem slice_cells {b : Option Addr} {k c : Nat} : (Value.slice b k c).cells = #[.slice b k c] := rfl
theorem setRow_grown {W : World} (b : Nat) (arr : Array Value) : W.grownBy (W.setRow b arr) (some b) :=
  ⟨rfl, rfl, rfl, by simp, fun k _ hk => setRow_other W b k _ (fun e => hk (by rw [e]))⟩
theorem put_t (a : Act) (d t : Nat) (v : Value) (hd : d < a.tmps.size) : (a.put (some d) v).tmps[t]? = if t = d then some v else a.tmps[t]? := tmps_put hd v t

variable {S E sz : Nat} {i : TypeInfo} {z : Value} {w0 : World} {xs : List Value} {x : Value} {K : Act → World → Prop}
theorem asg_round (hF : ∀ f, F.fn f) (hT : SeqT P S E sz i z) {id : Nat} {o2 : Array Oper} (hc : chkAsg N E sz o2.toList = true) (hx : Elem sz x) (ha : a.tmps.size = N) (hd : a.defers = []) (h7 : a.tmps[7]? = some x)
    (h2 : a.tmps[2]? = some (ptrTo w0.heap.size 0)) (hI : ApAt E sz S w0 xs w)
    (hK : ∀ a' W', KeepsFrom (w0.heap.size + 1) w W' → KeepsWalks w W' → ApAt E sz S w0 xs W' → AxAt N sz E w0.heap.size x a' W' → K a' W') : (Code.region id o2 false).wpIn F n P (Exit.then K (fun _ _ _ => False)) a w := by
  refine wpIn_region_list ?_
  generalize o2.toList = l at hc
  unfold chkAsg at hc
  split at hc
  · rename_i u0
    simp only [Bool.and_eq_true, beq_iff_eq] at hc
    obtain ⟨⟨⟨hs, p0⟩, d0⟩, m0⟩ := hc
    obtain ⟨e0, e1⟩ := dst_of d0
    refine op_value hF p0 (run_isAsg m0 h7) (wpListIn_nil ?_)
    rw [e0]
    refine hK _ _ (KeepsFrom.refl _ _) (KeepsWalks.refl _) hI ⟨by simp [Act.put, ha], hd, by rw [put_t _ _ _ _ (by omega)]; simpa using h2, .inl ⟨hs, by rw [put_t _ _ _ _ (by omega)]; simp⟩⟩
  · rename_i u0 u1
    simp only [Bool.and_eq_true, beq_iff_eq, bne_iff_ne] at hc
    obtain ⟨⟨⟨⟨⟨⟨hs, p0⟩, d0⟩, m0⟩, p1⟩, d1⟩, m1⟩ := hc
    obtain ⟨e0, e1⟩ := dst_of d0
    refine op_value hF p0 (run_isAlloc m0 hT.hE hT.zero) ?_
    rw [e0]
    have hnew : (w.alloc (.cells z.cells E)).heap[w.heap.size]? = some (.cells z.cells E (0, 0)) := heap_alloc_new w _
    have hst := run_storeBlock (P := P) (us := x.cells) hnew (by rw [hx.1, hT.zsize]) hx.2.1
    refine op_skip hF p1 d1 (run_isStore m1 (by rw [put_t _ _ _ _ (by omega)]; simp) (by rw [put_t _ _ _ _ (by omega)]; simpa using h7) hT.hE (by rw [hx.1, hT.size]) hst) (wpListIn_nil ?_)
    have hg : w.grownBy ((w.alloc (.cells z.cells E)).setRow w.heap.size x.cells) none :=
      ⟨rfl, rfl, rfl, by simp, fun k hk _ => by rw [setRow_other _ _ _ _ (by omega), heap_alloc_old w _ (h := hk)]⟩
    have hb := hI.below.size
    obtain ⟨v, hv, _⟩ := hI.box
    have hlt : w0.heap.size < w.heap.size := (Array.getElem?_eq_some_iff.1 hv).1
    refine hK _ _ (KeepsFrom.of_grownBy hg (fun j e => by cases e)) (KeepsWalks.of_grownBy hg (fun j o e => by cases e)) (ApAt.own _ _ _ _ _ _ _ none hI hg (fun r e => by cases e))
      ⟨by simp [Act.put, ha], hd, by rw [put_t _ _ _ _ (by omega)]; simpa using h2, .inr ⟨hs, w.heap.size, by rw [put_t _ _ _ _ (by omega)]; simp, hlt, setRow_heap _ _ _ _ _ _ hnew⟩⟩
  · cases hc

theorem ownsRow_to {W : World} {base : Nat} {e size : Nat} {v : Value} {k : Nat} {vs : List Value} (h : W.ownsRow 0 e size v k vs) (hb : ∀ b, v.ownBlock = some b → base ≤ b) : W.ownsRow base e size v k vs := by
  refine ⟨h.1, ?_⟩
  rcases h.2 with h0 | ⟨b, cap, cur, rfl, _, r⟩
  · exact .inl h0
  · exact .inr ⟨b, cap, cur, rfl, hb b rfl, r⟩
theorem ownsRow_zero {W : World} {base : Nat} {e size : Nat} {v : Value} {k : Nat} {vs : List Value} (h : W.ownsRow base e size v k vs) : W.ownsRow 0 e size v k vs := by
  refine ⟨h.1, ?_⟩
  rcases h.2 with h0 | ⟨b, cap, cur, rfl, _, r⟩
  · exact .inl h0
  · exact .inr ⟨b, cap, cur, rfl, Nat.zero_le _, r⟩
theorem body_round (hF : ∀ f, F.fn f) (hT : SeqT P S E sz i z) {id bid : Nat} {o3 : Array Oper} (hc : chkBody N S E sz o3.toList = true) (hx : Elem sz x) (hA : AxAt N sz E w0.heap.size x a w) (hI : ApAt E sz S w0 xs w) (hlen : xs.length < M)
    {Q' : Exit → Act → World → Prop} (hQ : ∀ a' W', KeepsFrom (w0.heap.size + 1) w W' → KeepsWalks w W' → ApAt E sz S w0 (xs ++ [x]) W' → Q' .normal a' W') : (Code.block bid (.region id o3 false)).wpIn F n P Q' a w := by
  obtain ⟨ha, hd, h2, h5⟩ := hA
  obtain ⟨v, hv, hown, hnil⟩ := hI.box
  obtain ⟨j, hj1, hj2⟩ := hT.iS
  refine wpIn_block (wpIn_region_list ?_)
  generalize o3.toList = l at hc
  unfold chkBody at hc
  split at hc
  case h_2 => cases hc
  rename_i b0 b1 b2 b3 b4
  simp only [Bool.and_eq_true, beq_iff_eq] at hc
  obtain ⟨⟨⟨⟨⟨⟨⟨⟨⟨⟨⟨⟨⟨⟨p0, d0⟩, m0⟩, p1⟩, d1⟩, m1⟩, p2⟩, d2⟩, m2⟩, p3⟩, d3⟩, m3⟩, p4⟩, d4⟩, m4⟩ := hc
  obtain ⟨e0, f0⟩ := dst_of d0
  obtain ⟨e1, f1⟩ := dst_of d1
  obtain ⟨e2, f2⟩ := dst_of d2
  obtain ⟨e3, f3⟩ := dst_of d3
  have hcell : w.cell? ⟨w0.heap.size, 0, none⟩ = some v := by simp [World.cell?, hv]
  have hBlt : w0.heap.size < w.heap.size := (Array.getElem?_eq_some_iff.1 hv).1
  refine op_value hF p0 (run_isLoad1 m0 h2 hT.hS ⟨by simp, by simp⟩ hcell) ?_
  rw [e0]
  -- the element
  have hr1 : (execOp (a.put (some 8) v).eval b1).run P w = .ok (.value x) w := by
    rcases h5 with ⟨hs, h5⟩ | ⟨hs, b5, h5, h6, h7⟩
    · rw [if_pos hs] at m1
      exact run_isMove (v := x) m1 (by rw [put_t _ _ _ _ (by omega)]; simpa using h5)
    · rw [if_neg hs] at m1
      obtain ⟨fs, hfs⟩ := hT.struct hs
      have := run_isLoadN (P := P) (a := a.put (some 8) v) (w := w) (ws := x.cells.toList) m1 (by rw [put_t _ _ _ _ (by omega)]; simpa using h5) hT.hE hfs (by rw [Array.length_toList, hx.1, hT.size]) (fun k u hk => by
        simp only [World.cell?, h7, Nat.zero_add]; simpa using hk)
      rw [Array.toArray_toList, ← hx.2.2.2 hs] at this
      exact this
  refine op_value hF p1 hr1 ?_
  rw [e1]
  have hsz9 : ((a.put (some 8) v).put (some 9) x).tmps.size = N := by simp [Act.put, ha]
  refine op_value hF p2 (run_isBuild1 (v := x) m2 (by rw [put_t _ _ _ _ (by simp [Act.put, ha]; omega)]; simp) hT.hS hT.hE hT.zero (by rw [hT.size]; exact hT.pos) (by rw [hx.1, hT.size]) (by rw [hT.size]; exact hT.le)) ?_
  rw [e2]
  generalize hw2 : w.alloc (.cells x.cells E) = w2
  have hg2 : w.grownBy w2 none := by rw [← hw2]; exact World.grownBy_alloc _ _ _
  have hnew : w2.heap[w.heap.size]? = some (.cells x.cells E (0, 0)) := by rw [← hw2]; exact heap_alloc_new w _
  have hown2 : w2.ownsRow (w0.heap.size + 1) E sz v xs.length (flat xs) := hown.kept hg2 (by
    cases h : v.ownBlock with
    | none => exact .inl rfl
    | some b => exact .inr (by simp))
  have hv2 : w2.heap[w0.heap.size]? = some (.cells #[v] S (0, 0)) := (hg2.block _ hBlt (by simp)).trans hv
  -- the append
  obtain ⟨v', w3, k1, k2, k3, k4, k0⟩ := run_app (P := P) (w := w2) (t := S) (ty := b3.type) (ad := ⟨w.heap.size, 0, none⟩) (m := 1) (c := 1) (news := x.cells.toList) hT.hS hT.hE hT.zero (by rw [hT.zsize, hT.size]) (by rw [hT.size]; exact ownsRow_zero hown2) (by rw [Array.length_toList, hx.1, hT.size, Nat.one_mul])
    (fun k u hk => by rw [addr_add]; simp only [World.cell?, hnew, Nat.zero_add]; simpa using hk) hx.2.1 (by omega) (by omega) hT.bytes
  rw [hT.size] at k2
  have hr3 : (execOp (((a.put (some 8) v).put (some 9) x).put (some 10) (.slice (some ⟨w.heap.size, 0, none⟩) 1 1)).eval b3).run P w2 = .ok (.value v') w3 := by
    unfold isApp at m3
    split at m3
    · rename_i u1 u2 t t' hb
      simp only [Bool.and_eq_true, beq_iff_eq] at m3
      obtain ⟨⟨⟨z1, z2⟩, z3⟩, z4⟩ := m3
      rw [z1, z2, z3, z4] at hb
      obtain ⟨cst, hrun⟩ := bcall_run (o := b3) hb rfl (((a.put (some 8) v).put (some 9) x).put (some 10) (.slice (some ⟨w.heap.size, 0, none⟩) 1 1)).eval
      rw [hrun]
      have q1 : (((a.put (some 8) v).put (some 9) x).put (some 10) (.slice (some ⟨w.heap.size, 0, none⟩) 1 1)).eval (.tmp 8) = v := evT (by
        rw [put_t _ _ _ _ (by omega)]; simp only [Nat.reduceEqDiff, if_false]; rw [put_t _ _ _ _ (by simp [Act.put, ha]; omega)]; simp only [Nat.reduceEqDiff, if_false]; rw [put_t _ _ _ _ (by omega)]; simp)
      have q2 : (((a.put (some 8) v).put (some 9) x).put (some 10) (.slice (some ⟨w.heap.size, 0, none⟩) 1 1)).eval (.tmp 10) = .slice (some ⟨w.heap.size, 0, none⟩) 1 1 := evT (by rw [put_t _ _ _ _ (by omega)]; simp)
      simp only [builtin, List.map_cons, List.map_nil, q1, q2, Sem.run_bind, k1, Result.andThen_ok, Sem.run_pure]
    · cases m3
  refine op_value hF p3 hr3 ?_
  rw [e3]
  have hfr : ∀ b, v.ownBlock = some b → w0.heap.size + 1 ≤ b ∧ b < w2.heap.size := hown2.lt
  have hv'b : ∀ b, v'.ownBlock = some b → w0.heap.size + 1 ≤ b := fun b hb => by
    rcases k4 with ⟨q, _⟩ | ⟨q, _⟩
    · rw [q] at hb; exact (hfr b hb).1
    · rw [q] at hb; simp at hb; have := hg2.size; omega
  have hblk3 : ∀ k, k < w2.heap.size → v.ownBlock ≠ some k → w3.heap[k]? = w2.heap[k]? := fun k hk hne => by
    rcases k4 with ⟨_, _, q⟩ | ⟨_, _, q⟩
    · exact q k (fun e => hne e.symm)
    · exact q k hk
  have hB2 : w0.heap.size < w2.heap.size := (Array.getElem?_eq_some_iff.1 hv2).1
  have hBne : v.ownBlock ≠ some w0.heap.size := fun e => by have := (hfr _ e).1; omega
  have hv3 : w3.heap[w0.heap.size]? = some (.cells #[v] S (0, 0)) := (hblk3 _ hB2 hBne).trans hv2
  have hv'c : v'.cells = #[v'] ∧ v'.oneCell' = true := by
    rcases k2.2 with ⟨rfl, _⟩ | ⟨b, cap, cur, rfl, _⟩ <;> exact ⟨rfl, rfl⟩
  have hst := run_storeBlock (P := P) (us := #[v']) hv3 rfl (by simpa using hv'c.2)
  refine op_skip hF p4 d4 (run_isStore (v := v') m4 ?_ ?_ hj1 (by rw [hv'c.1, hj2]; rfl) (by rw [hv'c.1]; exact hst)) (wpListIn_nil ?_)
  · rw [put_t _ _ _ _ (by simp [Act.put, ha]; omega)]; simp only [Nat.reduceEqDiff, if_false]; rw [put_t _ _ _ _ (by simp [Act.put, ha]; omega)]; simp only [Nat.reduceEqDiff, if_false]
    rw [put_t _ _ _ _ (by simp [Act.put, ha]; omega)]; simp only [Nat.reduceEqDiff, if_false]; rw [put_t _ _ _ _ (by omega)]; simpa using h2
  · rw [put_t _ _ _ _ (by simp [Act.put, ha]; omega)]; simp
  have hkeep : ∀ (k : Nat) (ob : Obj), w.heap[k]? = some ob → ob.isCells = false → (w3.setRow w0.heap.size #[v']).heap[k]? = some ob := fun k ob hk hob => by
    have hlt := (Array.getElem?_eq_some_iff.1 hk).1
    have h2k : w2.heap[k]? = some ob := (hg2.block k hlt (by simp)).trans hk
    have hne1 : k ≠ w0.heap.size := fun e => by subst e; rw [hv] at hk; simp at hk; subst hk; cases hob
    have hne2 : v.ownBlock ≠ some k := fun e => by
      rcases hown2.2 with ⟨rfl, _⟩ | ⟨b, cap, cur, rfl, _, q, _⟩
      · simp [Value.ownBlock] at e
      · simp [Value.ownBlock] at e; subst e; rw [h2k] at q; simp at q; subst q; cases hob
    rw [setRow_other _ _ _ _ hne1, hblk3 k (Nat.lt_of_lt_of_le hlt hg2.size) hne2]; exact h2k
  have hsz : w.heap.size ≤ (w3.setRow w0.heap.size #[v']).heap.size := by have := hg2.size; simp; omega
  have hown4 : (w3.setRow w0.heap.size #[v']).ownsRow (w0.heap.size + 1) E sz v' (xs.length + 1) (flat xs ++ x.cells.toList) := (ownsRow_to k2 hv'b).kept (setRow_grown _ _) (by
    cases h : v'.ownBlock with
    | none => exact .inl rfl
    | some b => exact .inr (fun e => by have := hv'b b h; simp at e; omega))
  show Q' .normal _ _
  refine hQ _ _ ⟨hsz, fun k ob _ hk hob => hkeep k ob hk hob⟩ ⟨hsz, fun k ob hk hob => hkeep k ob hk (Obj.not_cells_of_walk hob)⟩ ⟨?_, ⟨v', setRow_heap _ _ _ _ _ _ hv3, ?_, by simp⟩, ?_⟩
  · refine ⟨?_, ?_, ?_, ?_, fun k hk => ?_⟩
    · exact (congrArg Prod.fst k0.1).trans (hg2.os.trans hI.below.os)
    · exact (congrArg Prod.snd k0.1).trans (hg2.tape.trans hI.below.tape)
    · exact k0.2.trans (hg2.output.trans hI.below.output)
    · exact Nat.le_trans hI.below.size hsz
    · rw [setRow_other _ _ _ _ (by omega), hblk3 k (by omega) (fun e => by have := (hfr _ e).1; omega), hg2.block k (by omega) (by simp)]
      exact hI.below.block k hk
  · rw [List.length_append, List.length_singleton, flat_app]; exact hown4
  · intro y hy
    rcases List.mem_append.1 hy with hy | hy
    · exact hI.elems y hy
    · simp at hy; subst hy; exact hx
end
end AM
/-! slices.AppendSeq to nil, over a map's keys, as a contract of the abstract machine. Conditions: the map's values are bools. -/
namespace AM
open Go Go.RowKit
section
variable {P : Program} {gl : Glob} {N : Nat} {g g' : Gh} {s s' : St} {a : Act} {w w' : World} {F : Fence} {n : Nat} {Q : Exit → Act → World → Prop} {ops : Array Oper} {rest : List Oper} {o : Oper}
variable {S E sz : Nat} {i : TypeInfo} {z : Value} {w0 : World} {xs : List Value} {x : Value} {K : Act → World → Prop}

def chkApC (N S E sz : Nat) : Code → Bool
  | .seq (.region _ r0 false) (.seq (.seq (.region _ r1 false) (.block _ (.rangeFunc (.tmp t6) ps (.region _ r2 false) (.block _ (.region _ r3 false))))) (.seq (.region _ r4 false) .ret)) =>
    t6 == 6 && ps.toList == [7] && decide (12 < N) && (match r0.toList with | [x0, x1] => plainOp x0 && dstIs N x0 2 && isBox S 0 x0.op && plainOp x1 && dstIs N x1 4 && isAsgNil x1.op | _ => false) &&
      (match r1.toList with | [x2] => plainOp x2 && dstIs N x2 6 && isMove 1 x2.op | _ => false) && chkAsg N E sz r2.toList && chkBody N S E sz r3.toList &&
      (match r4.toList with | [c0, c1] => plainOp c0 && dstIs N c0 12 && isLoad S 2 c0.op && plainOp c1 && dstIs N c1 4 && isAsg 12 c1.op | _ => false)
  | _ => false
theorem MapR.world {b m id : Nat} {es : List (AV × AV)} (h : MapR P g w id b m es) (hv : ∀ e ∈ es, isB e.2 = true) (hw : w'.heap[b]? = w.heap[b]?) : MapR P g w' id b m es := by
  obtain ⟨arr, p1, p2, ⟨es', q1, q2, q3⟩, p4, p5, p6, p7⟩ := h
  refine ⟨arr, hw.trans p1, p2, ⟨es', q1, q2, fun i e m he hm => ?_⟩, p4, p5, p6, p7⟩
  obtain ⟨r1, r2, r3, r4⟩ := q3 i e m he hm
  exact ⟨r1, r2, r3, (notOwn_isB (hv e (q1.mem_iff.1 (List.mem_of_getElem? he)))).ownR⟩

abbrev El (sz : Nat) := { x : Value // Elem sz x }
theorem map_val {sz : Nat} : ∀ {xs : List Value}, (∀ x ∈ xs, Elem sz x) → ∃ ys : List (El sz), ys.map (·.1) = xs
  | [], _ => ⟨[], rfl⟩
  | x :: xs, h => by
    obtain ⟨ys, hy⟩ := map_val (xs := xs) fun y hy => h y (by simp [hy])
    exact ⟨⟨x, h x (by simp)⟩ :: ys, by simp [hy]⟩
theorem map_val_inj {sz : Nat} : ∀ {ys zs : List (El sz)}, ys.map (·.1) = zs.map (·.1) → ys = zs
  | [], [], _ => rfl
  | [], _ :: _, h => by simp at h
  | _ :: _, [], h => by simp at h
  | y :: ys, z :: zs, h => by
    simp only [List.map_cons, List.cons.injEq] at h
    rw [Subtype.ext h.1, map_val_inj h.2]

/-- The iterator's contract, as the law of ranges over functions takes it. -/
theorem keys_seq {fk : Nat} {fn : Func} {c : Code} {pre : List SOp} {ldk : SOp} (hf : P.funcs[fk]? = some fn) (hb : fn.body = some c) (hres : fn.results = #[]) (hC : chkKeysC P fn.ntmps pre ldk c = true)
    {id bm m Bm : Nat} {es : List (AV × AV)} (hv : ∀ e ∈ es, isB e.2 = true) (hk : ∀ e ∈ es, PreOk pre ldk e.1) (hp : ∀ e ∈ es, ∀ v, VR g0 e.1 v → Elem sz v) (hm : MapR P g w id bm m es) (hbm : bm < w.heap.size) (hbox : w.cell? ⟨Bm, 0, none⟩ = some (.map (some bm))) (hBm : Bm < w.heap.size) :
    SeqStopsK Fence.wide n P fk #[ptrTo Bm 0] (fun x : El sz => #[x.1]) KeepsWalks (fun xs => ∃ ks, ks.Perm (es.map (·.1)) ∧ VRs g0 ks (xs.map (·.1))) (fun _ => True) es.length w := by
  intro l J Jx W hW hJ hJx hY h0
  have hm' := hm.world (w' := W) hv (hW.block bm hbm)
  have hbox' : W.cell? ⟨Bm, 0, none⟩ = some (.map (some bm)) := (hW.cell hBm).trans hbox
  refine (keys_in (J := fun pre W => ∃ ys : List (El sz), ys.map (·.1) = pre ∧ J ys W) (Jx := fun pre W => ∃ ys : List (El sz), ys.map (·.1) = pre ∧ Jx ys W) (p := Elem sz) (n := n) (l := l) (F := Fence.wide) (fun _ => trivial) rfl (fun h => by cases h) hf hb hres hC hv hk hm' hbox' ?_ ?_ hp ?_ ⟨[], rfl, h0⟩).mono ?_
  · rintro pre W1 W2 row ⟨ys, rfl, hj⟩ hg hr
    exact ⟨ys, rfl, hJ ys W1 W2 row hj hg hr⟩
  · rintro pre W1 W2 ⟨ys, rfl, hj⟩ hg
    exact ⟨ys, rfl, hJx ys W1 W2 none hj hg (fun r e => by cases e)⟩
  · rintro pre x W1 ⟨ys, rfl, hj⟩ hx hlen
    obtain ⟨fn', tm, as, bd, hy, hR⟩ := hY ys ⟨x, hx⟩ W1 hj (by simpa using hlen)
    refine ⟨fn', tm, as, bd, hy, hR.mono ?_⟩
    rintro e W' (⟨rfl, q1, q2⟩ | ⟨rfl, q1⟩)
    · exact .inl ⟨rfl, ⟨_, by simp, q1⟩, q2⟩
    · exact .inr ⟨rfl, ⟨_, by simp, q1⟩⟩
  · rintro e W' ⟨hv', ⟨xs, ⟨ks, h1, h2⟩, ys, rfl, hj⟩ | ⟨pre, _, ys, rfl, hj⟩⟩
    · exact ⟨hv', .inl ⟨ys, ⟨ks, h1, h2⟩, hj⟩⟩
    · exact ⟨hv', .inr ⟨ys, trivial, hj⟩⟩

set_option maxHeartbeats 1000000 in
theorem append_in (hT : SeqT P S E sz i z) {fa fk : Nat} {fn fn' : Func} {c c' : Code} {pre : List SOp} {ldk : SOp} (hfa : P.funcs[fa]? = some fn) (hba : fn.body = some c) (hresa : fn.results = #[.tmp 4]) (hCa : chkApC fn.ntmps S E sz c = true)
    (hfk : P.funcs[fk]? = some fn') (hbk : fn'.body = some c') (hresk : fn'.results = #[]) (hCk : chkKeysC P fn'.ntmps pre ldk c' = true) (hcal : chkCallee P fk = true)
    {id bm m Bm : Nat} {es : List (AV × AV)} (hv : ∀ e ∈ es, isB e.2 = true) (hk : ∀ e ∈ es, PreOk pre ldk e.1) (hp : ∀ e ∈ es, ∀ v, VR g0 e.1 v → Elem sz v) (hm : MapR P g w id bm m es) (hbm : bm < w.heap.size) (hbox : w.cell? ⟨Bm, 0, none⟩ = some (.map (some bm))) (hBm : Bm < w.heap.size) (hM : es.length ≤ M) :
    Calls P fa #[.slice none 0 0, .func (.func fk) #[] #[ptrTo Bm 0]] w fun e W' => ∃ v xs ks, e = .returned v ∧ ks.Perm (es.map (·.1)) ∧ VRs g0 ks xs ∧ (∀ x ∈ xs, Elem sz x) ∧ Below w.heap.size w W' ∧ W'.ownsRow (w.heap.size + 1) E sz v xs.length (flat xs) ∧ (xs = [] → v = .slice none 0 0) := by
  refine (callsIn_wide (n := 5)).1 ?_
  have hF : ∀ f, Fence.wide.fn f := fun _ => trivial
  unfold chkApC at hCa
  split at hCa
  case h_2 => cases hCa
  rename_i i0 r0 i1 r1 bk t6 ps i2 r2 bk2 i3 r3 i4 r4
  simp only [Bool.and_eq_true, beq_iff_eq, decide_eq_true_eq] at hCa
  obtain ⟨⟨⟨⟨⟨⟨⟨rfl, hps⟩, hN⟩, c0⟩, c1⟩, c2⟩, c3⟩, c4⟩ := hCa
  refine callsIn_of_wp_marks hfa hba (hF _) ?_ rfl
  generalize hT' : (#[Value.slice none 0 0, .func (.func fk) #[] #[ptrTo Bm 0]] ++ Array.replicate (fn.ntmps - #[Value.slice none 0 0, .func (.func fk) #[] #[ptrTo Bm 0]].size) undef) = T
  have hsz : T.size = fn.ntmps := by rw [← hT']; simp; omega
  have hT0 : T[0]? = some (.slice none 0 0) := by rw [← hT']; simp [Array.getElem?_append]
  have hT1 : T[1]? = some (.func (.func fk) #[] #[ptrTo Bm 0]) := by rw [← hT']; simp [Array.getElem?_append]
  clear hT'
  generalize ha0 : ({ tmps := T, defers := [] } : Act) = a0
  have hs0 : a0.tmps.size = fn.ntmps := by rw [← ha0]; exact hsz
  have hd0 : a0.defers = [] := by rw [← ha0]
  have h00 : a0.tmps[0]? = some (.slice none 0 0) := by rw [← ha0]; exact hT0
  have h01 : a0.tmps[1]? = some (.func (.func fk) #[] #[ptrTo Bm 0]) := by rw [← ha0]; exact hT1
  clear ha0 hT0 hT1
  refine wpIn_seq (wpIn_region_list ?_)
  generalize r0.toList = l0 at c0
  split at c0
  case h_2 => cases c0
  rename_i x0 x1
  simp only [Bool.and_eq_true] at c0
  obtain ⟨⟨⟨⟨⟨p0, d0⟩, m0⟩, p1⟩, d1⟩, m1⟩ := c0
  obtain ⟨e0, f0⟩ := dst_of d0
  obtain ⟨e1, f1⟩ := dst_of d1
  refine op_value hF p0 (run_isBox m0 h00) ?_
  rw [e0]
  refine op_value hF p1 (run_isAsgNil m1) (wpListIn_nil ?_)
  rw [e1]
  generalize hW0 : w.alloc (.cells (Value.slice none 0 0).cells S) = W0
  have hg0 : w.grownBy W0 none := by rw [← hW0]; exact World.grownBy_alloc _ _ _
  have hz0 : W0.heap.size = w.heap.size + 1 := by rw [← hW0]; exact alloc_size _ _
  have hb0 : W0.heap[w.heap.size]? = some (.cells #[.slice none 0 0] S (0, 0)) := by rw [← hW0]; exact heap_alloc_new w _
  clear hW0
  generalize ha1 : (a0.put (some 2) (ptrTo w.heap.size 0)).put (some 4) (.slice none 0 0) = a1
  have hs1 : a1.tmps.size = fn.ntmps := by rw [← ha1]; simp [Act.put, hs0]
  have hd1 : a1.defers = [] := by rw [← ha1]; exact hd0
  have h11 : a1.tmps[1]? = some (.func (.func fk) #[] #[ptrTo Bm 0]) := by rw [← ha1, put_t _ _ _ _ (by simp [Act.put, hs0]; omega)]; simp only [Nat.reduceEqDiff, if_false]; rw [put_t _ _ _ _ (by omega)]; simpa using h01
  have h12 : a1.tmps[2]? = some (ptrTo w.heap.size 0) := by rw [← ha1, put_t _ _ _ _ (by simp [Act.put, hs0]; omega)]; simp only [Nat.reduceEqDiff, if_false]; rw [put_t _ _ _ _ (by omega)]; simp
  clear ha1
  show Code.wpIn _ _ _ _ _ a1 W0
  refine wpIn_seq (wpIn_seq (wpIn_region_list ?_))
  generalize r1.toList = l1 at c1
  split at c1
  case h_2 => cases c1
  rename_i x2
  simp only [Bool.and_eq_true] at c1
  obtain ⟨⟨p2, d2⟩, m2⟩ := c1
  obtain ⟨e2, f2⟩ := dst_of d2
  refine op_value hF p2 (run_isMove m2 h11) (wpListIn_nil ?_)
  rw [e2]
  generalize ha2 : a1.put (some 6) (.func (.func fk) #[] #[ptrTo Bm 0]) = a2
  have hs2 : a2.tmps.size = fn.ntmps := by rw [← ha2]; simp [Act.put, hs1]
  have hd2 : a2.defers = [] := by rw [← ha2]; exact hd1
  have h22 : a2.tmps[2]? = some (ptrTo w.heap.size 0) := by rw [← ha2, put_t _ _ _ _ (by omega)]; simpa using h12
  have h26 : a2.tmps[6]? = some (.func (.func fk) #[] #[ptrTo Bm 0]) := by rw [← ha2, put_t _ _ _ _ (by omega)]; simp
  clear ha2
  show Code.wpIn _ _ _ _ _ a2 W0
  have hps' : ps = #[7] := by apply Array.ext'; simpa using hps
  subst hps'
  have hseq := keys_seq (w := w) (n := 4) hfk hbk hresk hCk hv hk hp hm hbm hbox hBm
  have hbel : Below w.heap.size w W0 := (Below.refl _ w).grown hg0 (Nat.le_refl _) (fun k e => by cases e)
  have hAp0 : ApAt E sz S w [] W0 := ⟨hbel, ⟨_, hb0, World.ownsRow_nil _ _ _ _, fun _ => rfl⟩, by simp⟩
  refine wpIn_block (wpIn_rangeFunc_ownH (α := El sz) (w0 := w) rfl (by omega) (evT h26) (hF fk) (fun args w => run_callFunc hcal) hseq (fun h k => h.trans k) (fun W l o o' _ h _ hw => KeepsWalks.putObj _ h hw) hbel (fun _ => rfl)
    (fun (xs : List (El sz)) W => ApAt E sz S w (xs.map Subtype.val) W) (fun _ _ _ => False) (fun s W W' row h hg hr => ApAt.own E sz S w (s.map Subtype.val) W W' row h hg (fun r e => by have := hr r e; rw [hz0] at this; exact this)) (fun _ _ _ _ _ h _ _ => h) hAp0
    (fun x a' W => AxAt fn.ntmps sz E w.heap.size x.1 a' W) (fun x a' => AxAt.own _ _ _ _ _ _ _) ?_ ?_ ?_ (fun _ _ _ _ _ _ h _ => h.elim))
  · intro l pre x W K hI hK
    have e7 : ((#[7] : Array Nat).zip #[x.1]) = #[(7, x.1)] := by apply Array.ext'; simp
    rw [e7]
    refine asg_round (N := fn.ntmps) (w0 := w) (xs := pre.map Subtype.val) (x := x.1) (fun _ => trivial) hT c2 x.2 ?_ ?_ ?_ ?_ hI ?_
    · simp [hs2]
    · rfl
    · simp only [List.size_toArray, List.length_cons, List.length_nil, Nat.zero_add, List.foldl_toArray', List.foldl_cons, List.foldl_nil]
      rw [Array.getElem?_setIfInBounds_self_of_lt (by omega)]
    · simp only [List.size_toArray, List.length_cons, List.length_nil, Nat.zero_add, List.foldl_toArray', List.foldl_cons, List.foldl_nil]
      rw [Array.getElem?_setIfInBounds_ne (by omega)]; exact h22
    · intro a' W' q1 q2 q3 q4
      exact hK a' W' (by rw [hz0]; exact q1) q2 q3 q4
  · intro l pre x a' W _ _ hI hA hlen
    refine body_round (w0 := w) (xs := pre.map Subtype.val) (x := x.1) (fun _ => trivial) hT c3 x.2 hA hI (by simp; omega) ?_
    intro a2' W' q1 q2 q3
    exact ⟨by rw [hz0]; exact q1, q2, by simpa using q3⟩
  · intro D xs W hD hS hI hK
    show Code.wpIn _ _ _ _ _ _ W
    obtain ⟨v, hv1, hv2, hv3⟩ := hI.box
    refine wpIn_seq (wpIn_region_list ?_)
    generalize r4.toList = l4 at c4
    split at c4
    case h_2 => cases c4
    rename_i y0 y1
    simp only [Bool.and_eq_true] at c4
    obtain ⟨⟨⟨⟨⟨p3, d3⟩, m3⟩, p4⟩, d4⟩, m4⟩ := c4
    obtain ⟨e3, f3⟩ := dst_of d3
    obtain ⟨e4, f4⟩ := dst_of d4
    have hcell : W.cell? ⟨w.heap.size, 0, none⟩ = some v := by simp [World.cell?, hv1]
    refine op_value hF p3 (run_isLoad1 m3 h22 hT.hS ⟨by simp, by simp⟩ hcell) ?_
    rw [e3]
    refine op_value hF p4 (run_isAsg (v := v) m4 (by rw [put_t _ _ _ _ (by simp only; omega)]; simp)) (wpListIn_nil ?_)
    rw [e4]
    refine wpIn_ret ?_
    obtain ⟨ks, hks1, hks2⟩ := hS
    have hgD : W.grownBy (W.putObj D (.deferred none)) (some D) := Go.grownBy_putObj' W D _
    have hfin := ApAt.own E sz S w _ W _ _ hI hgD (fun r e => by cases e; exact ⟨by omega, _, hK, rfl⟩)
    obtain ⟨v2, hw1, hw2, hw3⟩ := hfin.box
    have hvv : v2 = v := by
      have hlt : w.heap.size < W.heap.size := (Array.getElem?_eq_some_iff.1 hv1).1
      have := hgD.block w.heap.size hlt (by simp; omega)
      rw [hw1, hv1] at this
      simp at this; exact this
    subst hvv
    refine ⟨by simp, .inl ⟨_, _, rfl, run_takeDeferred hK, ?_⟩⟩
    show LeavesInM _ _ _ _ _ _ a2.defers _ _
    rw [hd2]
    refine ⟨_, results_tmp hresa _ _ _, v2, xs.map (·.1), ks, ?_, hks1, hks2, fun y hy => ?_, hfin.below, hw2, hw3⟩
    · simp [Act.put, Array.getD_eq_getD_getElem?, hs2]
      omega
    · obtain ⟨z, _, rfl⟩ := List.mem_map.1 hy
      exact z.2
end
end AM
/-! A form of the interpreter that the kernel evaluates more lightly: environments by their recursor, forced as they are built. -/
namespace AM
open Go

theorem nbeq_false {a b : Nat} (h : a ≠ b) : Nat.beq a b = false := by
  cases hb : Nat.beq a b with
  | false => rfl
  | true => exact absurd (Nat.eq_of_beq_eq_true hb) h
theorem nbeq_eq (a b : Nat) : (a == b) = Nat.beq a b := by
  by_cases h : a = b
  · subst h; simp
  · rw [nbeq_false h]; simpa using h
noncomputable def Env.getK (e : Env) (t : Nat) : Option Ent := @List.rec (Nat × Ent) (fun _ => Option Ent) none (fun p _ ih => @Bool.rec (fun _ => Option Ent) ih (some p.2) (Nat.beq t p.1)) e
theorem Env.getK_eq : ∀ (e : Env) (t : Nat), e.getK t = e.get t
  | [], _ => rfl
  | (k, x) :: r, t => by
    have ih := Env.getK_eq r t
    have h : Env.getK ((k, x) :: r) t = @Bool.rec (fun _ => Option Ent) (Env.getK r t) (some x) (Nat.beq t k) := rfl
    rw [h, ih]
    simp only [Env.get]
    by_cases e : t = k
    · subst e; rw [Nat.beq_refl]; simp
    · rw [nbeq_false e, if_neg e]
noncomputable def Env.insK {β : Type} (e : Env) (t : Nat) (x : Ent) (k : Env → β) : β :=
  @List.rec (Nat × Ent) (fun _ => (Env → β) → β) (fun k => k [(t, x)])
    (fun p r ih k => @Bool.rec (fun _ => β) (@Bool.rec (fun _ => β) (ih (fun r' => k (p :: r'))) (k ((t, x) :: r)) (Nat.beq t p.1)) (k ((t, x) :: p :: r)) (Nat.blt t p.1)) e k
theorem Env.insK_eq {β : Type} : ∀ (e : Env) (t : Nat) (x : Ent) (k : Env → β), e.insK t x k = k (e.ins t x)
  | [], _, _, _ => rfl
  | (u, y) :: r, t, x, k => by
    have ih := Env.insK_eq r t x (fun r' => k ((u, y) :: r'))
    have h : Env.insK ((u, y) :: r) t x k = @Bool.rec (fun _ => β) (@Bool.rec (fun _ => β) (Env.insK r t x (fun r' => k ((u, y) :: r'))) (k ((t, x) :: r)) (Nat.beq t u)) (k ((t, x) :: (u, y) :: r)) (Nat.blt t u) := rfl
    rw [h, ih]
    simp only [Env.ins]
    by_cases h1 : t < u
    · rw [if_pos h1]
      have : Nat.blt t u = true := by simpa [Nat.blt_eq] using h1
      rw [this]
    · rw [if_neg h1]
      have : Nat.blt t u = false := by
        cases hb : Nat.blt t u with
        | false => rfl
        | true => exact absurd (Nat.blt_eq ▸ hb) h1
      rw [this]
      by_cases h2 : t = u
      · subst h2; rw [Nat.beq_refl, if_pos rfl]
      · rw [nbeq_false h2, if_neg h2]
noncomputable def memK (t : Nat) (ts : List Nat) : Bool := @List.rec Nat (fun _ => Bool) false (fun u _ ih => @Bool.rec (fun _ => Bool) ih true (Nat.beq t u)) ts
theorem memK_eq (t : Nat) : ∀ ts : List Nat, memK t ts = ts.contains t
  | [] => rfl
  | u :: r => by
    have ih := memK_eq t r
    have h : memK t (u :: r) = @Bool.rec (fun _ => Bool) (memK t r) true (Nat.beq t u) := rfl
    rw [h, ih, List.contains_cons]
    rw [nbeq_eq]
    cases Nat.beq t u <;> rfl
/-- Addresses are forgotten, and temporaries. -/
noncomputable def Env.closeK {β : Type} (e : Env) (ts : List Nat) (k : Env → β) : β :=
  @List.rec (Nat × Ent) (fun _ => (Env → β) → β) (fun k => k [])
    (fun p _ ih k => @Ent.rec (fun _ => β) (fun x => @Bool.rec (fun _ => β) (ih (fun r' => k ((p.1, .v x) :: r'))) (ih k) (memK p.1 ts)) (fun cs => @Bool.rec (fun _ => β) (ih (fun r' => k ((p.1, .b cs) :: r'))) (ih k) (memK p.1 ts)) (fun _ _ => ih k) p.2) e k
theorem Env.closeK_eq {β : Type} : ∀ (e : Env) (ts : List Nat) (k : Env → β), e.closeK ts k = k (e.close ts)
  | [], _, _ => rfl
  | (u, .a v off) :: r, ts, k => Env.closeK_eq r ts k
  | (u, .v x) :: r, ts, k => by
    have h : Env.closeK ((u, .v x) :: r) ts k = @Bool.rec (fun _ => β) (Env.closeK r ts (fun r' => k ((u, .v x) :: r'))) (Env.closeK r ts k) (memK u ts) := rfl
    rw [h, Env.closeK_eq r, Env.closeK_eq r, memK_eq]
    simp only [Env.close]
    cases ts.contains u <;> rfl
  | (u, .b x) :: r, ts, k => by
    have h : Env.closeK ((u, .b x) :: r) ts k = @Bool.rec (fun _ => β) (Env.closeK r ts (fun r' => k ((u, .b x) :: r'))) (Env.closeK r ts k) (memK u ts) := rfl
    rw [h, Env.closeK_eq r, Env.closeK_eq r, memK_eq]
    simp only [Env.close]
    cases ts.contains u <;> rfl
/-- A number, evaluated. -/
def forceN {β : Type} (n : Nat) (k : Nat → β) : β := match n with | 0 => k 0 | m + 1 => k (m + 1)
theorem forceN_eq {β : Type} (n : Nat) (k : Nat → β) : forceN n k = k n := by cases n <;> rfl
/-- A value's head, evaluated. -/
def forceV {β : Type} (x : AV) (k : AV → β) : β := match x with
  | .int kd (.ofNat n) => forceN n fun n => k (.int kd (.ofNat n))
  | .int kd (.negSucc n) => forceN n fun n => k (.int kd (.negSucc n))
  | .bool true => k (.bool true)
  | .bool false => k (.bool false)
  | .str l => k (.str l)
  | .nilp => k .nilp
  | .ptr a o => forceN a fun a => forceN o fun o => k (.ptr a o)
  | .cptr cs => k (.cptr cs)
  | .list o sz xs => k (.list o sz xs)
  | .map i => forceN i fun i => k (.map i)
  | .nilm => k .nilm
  | .fn f cs => k (.fn f cs)
  | .nilf => k .nilf
  | .nili => k .nili
  | .nils n => k (.nils n)
  | .nilc n => k (.nilc n)
  | .sl a b c d => forceN a fun a => forceN b fun b => forceN c fun c => k (.sl a b c d)
  | .agg cs => k (.agg cs)
  | .tup cs => k (.tup cs)
theorem forceV_eq {β : Type} (x : AV) (k : AV → β) : forceV x k = k x := by
  cases x <;> simp only [forceV, forceN_eq]
  case bool b => cases b <;> rfl
  case int kd n => cases n <;> rfl
noncomputable def evOK (gl : Glob) (env : Env) (o : Opd) : Option AV := @Opd.rec (fun _ => Option AV)
  (fun n => @Option.rec Ent (fun _ => Option AV) none (fun e => @Ent.rec (fun _ => Option AV) (fun x => some x) (fun _ => none) (fun _ _ => none) e) (Env.getK env n)) (fun x => some x) (fun n => some (.fn n [])) (fun n => gl n) o
theorem evOK_eq (gl : Glob) (env : Env) (o : Opd) : evOK gl env o = evO gl env o := by
  cases o with
  | t n =>
    have h : evOK gl env (.t n) = @Option.rec Ent (fun _ => Option AV) none (fun e => @Ent.rec (fun _ => Option AV) (fun x => some x) (fun _ => none) (fun _ _ => none) e) (Env.getK env n) := rfl
    rw [h, Env.getK_eq]
    simp only [evO]
    cases Env.get env n with
    | none => rfl
    | some e => cases e <;> rfl
  | _ => rfl
noncomputable def okPutK (env : Env) (d : Nat) : Bool := @Option.rec Ent (fun _ => Bool) true (fun e => @Ent.rec (fun _ => Bool) (fun _ => true) (fun _ => false) (fun _ _ => false) e) (Env.getK env d)
theorem okPutK_eq (env : Env) (d : Nat) : okPutK env d = okPut env d := by
  unfold okPutK okPut
  rw [Env.getK_eq]
  cases Env.get env d with
  | none => rfl
  | some e => cases e <;> rfl
noncomputable def St.putK (s : St) (d : Nat) (x : AV) : Option St := @St.rec (fun _ => Option St)
  (fun e h => @Bool.rec (fun _ => Option St) none (forceV x fun x => e.insK d (.v x) fun e' => some ⟨e', h⟩) (okPutK e d)) s
theorem St.putK_eq (s : St) (d : Nat) (x : AV) : s.putK d x = s.put d x := by
  obtain ⟨e, h⟩ := s
  have h1 : St.putK ⟨e, h⟩ d x = @Bool.rec (fun _ => Option St) none (forceV x fun x => e.insK d (.v x) fun e' => some ⟨e', h⟩) (okPutK e d) := rfl
  rw [h1, forceV_eq, Env.insK_eq, okPutK_eq]
  simp only [St.put]
  cases okPut e d <;> rfl
noncomputable def St.putAK (s : St) (d t off : Nat) : Option St := @St.rec (fun _ => Option St)
  (fun e h => @Bool.rec (fun _ => Option St) none (forceN off fun off => e.insK d (.a t off) fun e' => some ⟨e', h⟩) (okPutK e d)) s
theorem St.putAK_eq (s : St) (d t off : Nat) : s.putAK d t off = if okPut s.env d then some { s with env := s.env.ins d (.a t off) } else none := by
  obtain ⟨e, h⟩ := s
  have h1 : St.putAK ⟨e, h⟩ d t off = @Bool.rec (fun _ => Option St) none (forceN off fun off => e.insK d (.a t off) fun e' => some ⟨e', h⟩) (okPutK e d) := rfl
  rw [h1, forceN_eq, Env.insK_eq, okPutK_eq]
  cases okPut e d <;> rfl
noncomputable def St.putBK (s : St) (d : Nat) (cs : List AV) : Option St := @St.rec (fun _ => Option St)
  (fun e h => if hasA e d || isA e d then none else e.insK d (.b cs) fun e' => some ⟨e', h⟩) s
theorem St.putBK_eq (s : St) (d : Nat) (cs : List AV) : s.putBK d cs = s.putB d cs := by
  obtain ⟨e, h⟩ := s
  have h1 : St.putBK ⟨e, h⟩ d cs = if hasA e d || isA e d then none else e.insK d (.b cs) fun e' => some ⟨e', h⟩ := rfl
  rw [h1, Env.insK_eq]; rfl
noncomputable def evOsK (gl : Glob) (env : Env) : List Opd → Option (List AV)
  | [] => some []
  | x :: r => match evOK gl env x, evOsK gl env r with | some v, some vs => some (v :: vs) | _, _ => none
theorem evOsK_eq (gl : Glob) (env : Env) : ∀ xs, evOsK gl env xs = evOs gl env xs
  | [] => rfl
  | x :: r => by simp only [evOsK, evOs, evOK_eq, evOsK_eq gl env r] <;> rfl
noncomputable def adrK (gl : Glob) (env : Env) : Opd → Option Adr
  | .t n => match Env.getK env n with
    | some (.b _) => some (.bx n 0)
    | some (.a t off) => some (.bx t off)
    | some (.v (.ptr id off)) => some (.hp id off)
    | some (.v (.cptr cs)) => some (.im cs)
    | _ => none
  | .g n => match gl n with | some (.cptr cs) => some (.im cs) | _ => none
  | _ => none
theorem adrK_eq (gl : Glob) (env : Env) (o : Opd) : adrK gl env o = adr gl env o := by
  cases o <;> simp only [adrK, adr, Env.getK_eq] <;> rfl
noncomputable def bndK (gl : Glob) (env : Env) (dflt : Nat) : Option Opd → Option Int
  | none => some dflt
  | some x => match evOK gl env x with | some (.int _ n) => some n | _ => none
theorem bndK_eq (gl : Glob) (env : Env) (dflt : Nat) (o : Option Opd) : bndK gl env dflt o = bnd gl env dflt o := by
  cases o <;> simp only [bndK, bnd, evOK_eq] <;> rfl
noncomputable def rdAtK (s : St) (n : Nat) : Adr → Option (List AV)
  | .bx t off => match Env.getK s.env t with
    | some (.b cs) => if off + n ≤ cs.length then some ((cs.drop off).take n) else none
    | _ => none
  | .hp id off => match s.heap[id]? with
    | some (.cells cs) => if off + n ≤ cs.length then some ((cs.drop off).take n) else none
    | some (.buf _ cs) => if off + n ≤ cs.length then some ((cs.drop off).take n) else none
    | _ => none
  | .im cs => if n ≤ cs.length then some (cs.take n) else none
theorem rdAtK_eq (s : St) (n : Nat) (p : Adr) : rdAtK s n p = rdAt s n p := by
  cases p <;> simp only [rdAtK, rdAt, Env.getK_eq] <;> rfl
noncomputable def wrAtK (s : St) (vs : List AV) : Adr → Option St
  | .bx t off => match Env.getK s.env t with
    | some (.b cs) => if off + vs.length ≤ cs.length then @St.rec (fun _ => Option St) (fun e h => e.insK t (.b (setCells cs off vs)) fun e' => some ⟨e', h⟩) s else none
    | _ => none
  | .hp id off => match s.heap[id]? with
    | some (.cells cs) => if off + vs.length ≤ cs.length then some { s with heap := s.heap.set id (.cells (setCells cs off vs)) } else none
    | some (.buf e cs) => if off + vs.length ≤ cs.length then some { s with heap := s.heap.set id (.buf e (setCells cs off vs)) } else none
    | _ => none
  | .im _ => none
theorem wrAtK_eq (s : St) (vs : List AV) (p : Adr) : wrAtK s vs p = wrAt s vs p := by
  cases p with
  | bx t off =>
    have h : ∀ x : List AV, (@St.rec (fun _ => Option St) (fun e h => e.insK t (.b x) fun e' => some ⟨e', h⟩) s) = some { s with env := s.env.ins t (.b x) } := fun x => by
      obtain ⟨e, h⟩ := s
      exact Env.insK_eq _ _ _ _
    simp only [wrAtK, wrAt, Env.getK_eq, h] <;> rfl
  | hp id off => simp only [wrAtK, wrAt] <;> rfl
  | im cs => rfl
end AM
/-! Printed by wip/gen/mkk.py: each operation as a function of its own, over the lighter primitives; it is the operation. -/
namespace AM
open Go
noncomputable def e_mv (gl : Glob) (d : Nat) (x : Opd) (s : St) : Option St := (evOK gl s.env x).bind fun v => s.putK d v.noOwn
theorem e_mv_eq (gl : Glob) (d : Nat) (x : Opd) (s : St) : e_mv gl d x s = ev gl s (.mv d x) := by
  simp only [e_mv, ev, evOK_eq, St.putK_eq] <;> rfl
noncomputable def e_tk (_gl : Glob) (d : Nat) (x : Nat) (s : St) : Option St := match Env.getK s.env x with
    | some (.v (.list (some e) sz xs)) => if d = x then none else (s.putK x (.list none sz xs)).bind fun s => s.putK d (.list (some e) sz xs)
    | some (.v v) => s.putK d v.noOwn
    | _ => none
theorem e_tk_eq (gl : Glob) (d : Nat) (x : Nat) (s : St) : e_tk gl d x s = ev gl s (.tk d x) := by
  simp only [e_tk, ev, Env.getK_eq, St.putK_eq] <;> rfl
noncomputable def e_nil_ (_gl : Glob) (d : Nat) (e : Nat) (sz : Nat) (s : St) : Option St := s.putK d (.list (some e) sz [])
theorem e_nil__eq (gl : Glob) (d : Nat) (e : Nat) (sz : Nat) (s : St) : e_nil_ gl d e sz s = ev gl s (.nil_ d e sz) := by
  simp only [e_nil_, ev, St.putK_eq] <;> rfl
noncomputable def e_pick (gl : Glob) (d : Nat) (c : Opd) (a : Opd) (b : Opd) (s : St) : Option St := match evOK gl s.env c with
    | some (.bool t) => if t = true then (evOK gl s.env a).bind fun v => s.putK d v.noOwn else (evOK gl s.env b).bind fun v => s.putK d v.noOwn
    | _ => none
theorem e_pick_eq (gl : Glob) (d : Nat) (c : Opd) (a : Opd) (b : Opd) (s : St) : e_pick gl d c a b s = ev gl s (.pick d c a b) := by
  simp only [e_pick, ev, evOK_eq, St.putK_eq] <;> rfl
noncomputable def e_bin (gl : Glob) (d : Nat) (m : Nat) (op : BinOp) (x : Opd) (y : Opd) (s : St) : Option St := match evOK gl s.env x, evOK gl s.env y with
    | some a, some b => (binV m op a b).bind fun v => s.putK d v
    | _, _ => none
theorem e_bin_eq (gl : Glob) (d : Nat) (m : Nat) (op : BinOp) (x : Opd) (y : Opd) (s : St) : e_bin gl d m op x y s = ev gl s (.bin d m op x y) := by
  simp only [e_bin, ev, evOK_eq, St.putK_eq] <;> rfl
noncomputable def e_eqa (gl : Glob) (d : Nat) (ne : Bool) (ks : List Nat) (x : Opd) (y : Opd) (s : St) : Option St := match evOK gl s.env x, evOK gl s.env y with
    | some (.agg a), some (.agg b) => (eqsK ks a b).bind fun r => s.putK d (.bool (if ne = true then !r else r))
    | _, _ => none
theorem e_eqa_eq (gl : Glob) (d : Nat) (ne : Bool) (ks : List Nat) (x : Opd) (y : Opd) (s : St) : e_eqa gl d ne ks x y s = ev gl s (.eqa d ne ks x y) := by
  simp only [e_eqa, ev, evOK_eq, St.putK_eq] <;> rfl
noncomputable def e_not_ (gl : Glob) (d : Nat) (x : Opd) (s : St) : Option St := match evOK gl s.env x with | some (.bool b) => s.putK d (.bool (!b)) | _ => none
theorem e_not__eq (gl : Glob) (d : Nat) (x : Opd) (s : St) : e_not_ gl d x s = ev gl s (.not_ d x) := by
  simp only [e_not_, ev, evOK_eq, St.putK_eq] <;> rfl
noncomputable def e_neg (gl : Glob) (d : Nat) (x : Opd) (s : St) : Option St := match evOK gl s.env x with | some (.int k n) => s.putK d (.int k (k.wrap (0 - n))) | _ => none
theorem e_neg_eq (gl : Glob) (d : Nat) (x : Opd) (s : St) : e_neg gl d x s = ev gl s (.neg d x) := by
  simp only [e_neg, ev, evOK_eq, St.putK_eq] <;> rfl
noncomputable def e_conv (gl : Glob) (d : Nat) (k : IntKind) (x : Opd) (s : St) : Option St := match evOK gl s.env x with | some (.int _ n) => s.putK d (.int k (k.wrap n)) | _ => none
theorem e_conv_eq (gl : Glob) (d : Nat) (k : IntKind) (x : Opd) (s : St) : e_conv gl d k x s = ev gl s (.conv d k x) := by
  simp only [e_conv, ev, evOK_eq, St.putK_eq] <;> rfl
noncomputable def e_ext (_gl : Glob) (d : Nat) (x : Nat) (i : Nat) (s : St) : Option St := match Env.getK s.env x with | some (.v (.tup vs)) => (vs[i]?).bind fun v => s.putK d v.noOwn | _ => none
theorem e_ext_eq (gl : Glob) (d : Nat) (x : Nat) (i : Nat) (s : St) : e_ext gl d x i s = ev gl s (.ext d x i) := by
  simp only [e_ext, ev, Env.getK_eq, St.putK_eq] <;> rfl
noncomputable def e_len (gl : Glob) (d : Nat) (m : Nat) (x : Opd) (s : St) : Option St := match evOK gl s.env x with
    | some (.list _ _ xs) => if m = 1 then s.putK d (.int .i64 xs.length) else none
    | some (.str b) => if m = 0 then s.putK d (.int .i64 b.length) else none
    | some .nilm => if m = 2 then s.putK d (.int .i64 0) else none
    | some (.nils _) => if m = 1 then s.putK d (.int .i64 0) else none
    | some (.sl _ _ n _) => if m = 1 then s.putK d (.int .i64 n) else none
    | some (.map id) => if m = 2 then (match s.heap[id]? with | some (.map _ es) => s.putK d (.int .i64 es.length) | _ => none) else none
    | _ => none
theorem e_len_eq (gl : Glob) (d : Nat) (m : Nat) (x : Opd) (s : St) : e_len gl d m x s = ev gl s (.len d m x) := by
  simp only [e_len, ev, evOK_eq, St.putK_eq] <;> rfl
noncomputable def e_alloc (_gl : Glob) (d : Nat) (z : List AV) (s : St) : Option St := s.putBK d z
theorem e_alloc_eq (gl : Glob) (d : Nat) (z : List AV) (s : St) : e_alloc gl d z s = ev gl s (.alloc d z) := by
  simp only [e_alloc, ev, St.putBK_eq] <;> rfl
noncomputable def e_box (gl : Glob) (d : Nat) (x : Opd) (s : St) : Option St := (evOK gl s.env x).bind fun v => if v.cells.all AV.one then s.putBK d (v.cells.map AV.noOwn) else none
theorem e_box_eq (gl : Glob) (d : Nat) (x : Opd) (s : St) : e_box gl d x s = ev gl s (.box d x) := by
  simp only [e_box, ev, evOK_eq, St.putBK_eq] <;> rfl
noncomputable def e_allocH (_gl : Glob) (d : Nat) (z : List AV) (s : St) : Option St := ({ s with heap := s.heap ++ [AObj.cells z] }).putK d (.ptr s.heap.length 0)
theorem e_allocH_eq (gl : Glob) (d : Nat) (z : List AV) (s : St) : e_allocH gl d z s = ev gl s (.allocH d z) := by
  simp only [e_allocH, ev, St.putK_eq] <;> rfl
noncomputable def e_boxH (gl : Glob) (d : Nat) (x : Opd) (s : St) : Option St := (evOK gl s.env x).bind fun v => if v.cells.all AV.one then ({ s with heap := s.heap ++ [AObj.cells (v.cells.map AV.noOwn)] }).putK d (.ptr s.heap.length 0) else none
theorem e_boxH_eq (gl : Glob) (d : Nat) (x : Opd) (s : St) : e_boxH gl d x s = ev gl s (.boxH d x) := by
  simp only [e_boxH, ev, evOK_eq, St.putK_eq] <;> rfl
noncomputable def e_boxI (gl : Glob) (d : Nat) (x : Opd) (s : St) : Option St := (evOK gl s.env x).bind fun v => if v.cells.all AV.pure1 then s.putK d (.cptr v.cells) else none
theorem e_boxI_eq (gl : Glob) (d : Nat) (x : Opd) (s : St) : e_boxI gl d x s = ev gl s (.boxI d x) := by
  simp only [e_boxI, ev, evOK_eq, St.putK_eq] <;> rfl
noncomputable def e_build (gl : Glob) (d : Nat) (z : List AV) (parts : List (Nat × Nat × Opd)) (s : St) : Option St := (fillParts gl s.env z parts).bind fun cs => s.putK d (.agg cs)
theorem e_build_eq (gl : Glob) (d : Nat) (z : List AV) (parts : List (Nat × Nat × Opd)) (s : St) : e_build gl d z parts s = ev gl s (.build d z parts) := by
  simp only [e_build, ev, St.putK_eq] <;> rfl
noncomputable def e_lit (gl : Glob) (d : Nat) (sz : Nat) (xs : List Opd) (s : St) : Option St := (evOsK gl s.env xs).bind fun vs =>
      if vs.all (fun v => v.noOwn.pure && v.cells.length == sz) && decide (vs.length ≤ 1000) then s.putK d (.list none sz (vs.map AV.noOwn)) else none
theorem e_lit_eq (gl : Glob) (d : Nat) (sz : Nat) (xs : List Opd) (s : St) : e_lit gl d sz xs s = ev gl s (.lit d sz xs) := by
  simp only [e_lit, ev, evOsK_eq, St.putK_eq] <;> rfl
noncomputable def e_fa (gl : Glob) (d : Nat) (x : Opd) (off : Nat) (s : St) : Option St := match adrK gl s.env x with
    | some (.bx t o) => s.putAK d t (o + off)
    | some (.hp id o) => s.putK d (.ptr id (o + off))
    | some (.im cs) => if off ≤ cs.length then s.putK d (.cptr (cs.drop off)) else none
    | none => none
theorem e_fa_eq (gl : Glob) (d : Nat) (x : Opd) (off : Nat) (s : St) : e_fa gl d x off s = ev gl s (.fa d x off) := by
  simp only [e_fa, ev, adrK_eq, St.putK_eq, St.putAK_eq] <;> rfl
noncomputable def e_ia (gl : Glob) (d : Nat) (sz : Nat) (x : Opd) (i : Opd) (s : St) : Option St := match evOK gl s.env x, evOK gl s.env i with
    | some (.list _ sz' xs), some (.int _ n) => if sz' = sz ∧ 0 ≤ n ∧ n < xs.length then (xs[n.toNat]?).bind fun v => s.putK d (.cptr v.cells) else none
    | some (.sl id off m sz'), some (.int _ n) => if sz' = sz ∧ 0 ≤ n ∧ n < m then s.putK d (.ptr id (off + n.toNat * sz)) else none
    | _, _ => none
theorem e_ia_eq (gl : Glob) (d : Nat) (sz : Nat) (x : Opd) (i : Opd) (s : St) : e_ia gl d sz x i s = ev gl s (.ia d sz x i) := by
  simp only [e_ia, ev, evOK_eq, St.putK_eq] <;> rfl
noncomputable def e_iaa (gl : Glob) (d : Nat) (x : Opd) (n : Nat) (sz : Nat) (i : Opd) (s : St) : Option St := match adrK gl s.env x, evOK gl s.env i with
    | some (.bx t o), some (.int _ k) => if 0 ≤ k ∧ k < n ∧ okPut s.env d = true then some { s with env := s.env.ins d (.a t (o + k.toNat * sz)) } else none
    | some (.hp id o), some (.int _ k) => if 0 ≤ k ∧ k < n then s.putK d (.ptr id (o + k.toNat * sz)) else none
    | some (.im cs), some (.int _ k) => if 0 ≤ k ∧ k < n ∧ n * sz ≤ cs.length then s.putK d (.cptr (cs.drop (k.toNat * sz))) else none
    | _, _ => none
theorem e_iaa_eq (gl : Glob) (d : Nat) (x : Opd) (n : Nat) (sz : Nat) (i : Opd) (s : St) : e_iaa gl d x n sz i s = ev gl s (.iaa d x n sz i) := by
  simp only [e_iaa, ev, evOK_eq, adrK_eq, St.putK_eq] <;> rfl
noncomputable def e_ld (gl : Glob) (d : Nat) (x : Opd) (n : Nat) (ag : Bool) (s : St) : Option St := (adrK gl s.env x).bind fun p => (rdAtK s n p).bind fun cs =>
      if ag = true then s.putK d (.agg (cs.map AV.noOwn)) else match cs with | [v] => s.putK d v.noOwn | _ => none
theorem e_ld_eq (gl : Glob) (d : Nat) (x : Opd) (n : Nat) (ag : Bool) (s : St) : e_ld gl d x n ag s = ev gl s (.ld d x n ag) := by
  simp only [e_ld, ev, adrK_eq, St.putK_eq, rdAtK_eq] <;> rfl
noncomputable def e_ldt (gl : Glob) (d : Nat) (x : Opd) (e : Nat) (sz : Nat) (s : St) : Option St := (adrK gl s.env x).bind fun p => (rdAtK s 1 p).bind fun cs => match cs with
      | [.list (some e) sz xs] => (wrAtK s [.list none sz xs] p).bind fun s => s.putK d (.list (some e) sz xs)
      | [.nils _] => s.putK d (.list (some e) sz [])
      | _ => none
theorem e_ldt_eq (gl : Glob) (d : Nat) (x : Opd) (e : Nat) (sz : Nat) (s : St) : e_ldt gl d x e sz s = ev gl s (.ldt d x e sz) := by
  simp only [e_ldt, ev, adrK_eq, St.putK_eq, rdAtK_eq, wrAtK_eq] <;> rfl
noncomputable def e_st (gl : Glob) (n : Nat) (x : Opd) (v : Opd) (s : St) : Option St := (adrK gl s.env x).bind fun p => (evOK gl s.env v).bind fun v => if v.cells.length = n ∧ v.cells.all AV.one then wrAtK s (v.cells.map AV.noOwn) p else none
theorem e_st_eq (gl : Glob) (n : Nat) (x : Opd) (v : Opd) (s : St) : e_st gl n x v s = ev gl s (.st n x v) := by
  simp only [e_st, ev, evOK_eq, adrK_eq, wrAtK_eq] <;> rfl
noncomputable def e_stt (gl : Glob) (x : Opd) (v : Nat) (s : St) : Option St := (adrK gl s.env x).bind fun p => match Env.getK s.env v with
      | some (.v (.list (some e) sz xs)) => (s.putK v (.list none sz xs)).bind fun s => wrAtK s [.list (some e) sz xs] p
      | _ => none
theorem e_stt_eq (gl : Glob) (x : Opd) (v : Nat) (s : St) : e_stt gl x v s = ev gl s (.stt x v) := by
  simp only [e_stt, ev, Env.getK_eq, adrK_eq, St.putK_eq, wrAtK_eq] <;> rfl
noncomputable def e_idx (gl : Glob) (d : Nat) (x : Opd) (i : Opd) (s : St) : Option St := match evOK gl s.env x, evOK gl s.env i with
    | some (.str b), some (.int _ n) => if 0 ≤ n then (b[n.toNat]?).bind fun c => s.putK d (.int .u8 c.toNat) else none
    | _, _ => none
theorem e_idx_eq (gl : Glob) (d : Nat) (x : Opd) (i : Opd) (s : St) : e_idx gl d x i s = ev gl s (.idx d x i) := by
  simp only [e_idx, ev, evOK_eq, St.putK_eq] <;> rfl
noncomputable def e_slc (gl : Glob) (d : Nat) (szz : Nat) (x : Opd) (lo : Option Opd) (hi : Option Opd) (s : St) : Option St := match evOK gl s.env x with
    | some (.str b) => match bndK gl s.env 0 lo, bndK gl s.env b.length hi with
      | some l, some h => if szz = 0 ∧ 0 ≤ l ∧ l ≤ h ∧ h ≤ b.length then s.putK d (.str ((b.take h.toNat).drop l.toNat)) else none
      | _, _ => none
    | some (.list _ sz xs) => match bndK gl s.env 0 lo, bndK gl s.env xs.length hi with
      | some l, some h => if szz = sz ∧ sz ≠ 0 ∧ 0 ≤ l ∧ l ≤ h ∧ h ≤ xs.length then s.putK d (.list none sz ((xs.take h.toNat).drop l.toNat)) else none
      | _, _ => none
    | some (.nils sz) => match bndK gl s.env 0 lo, bndK gl s.env 0 hi with
      | some l, some h => if szz = sz ∧ sz ≠ 0 ∧ l = 0 ∧ h = 0 then s.putK d (.nils sz) else none
      | _, _ => none
    | some (.sl id off n sz) => match bndK gl s.env 0 lo, bndK gl s.env n hi with
      | some l, some h => if szz = sz ∧ sz ≠ 0 ∧ 0 ≤ l ∧ l ≤ h ∧ h ≤ n then (if 0 < l ∧ l = h then s.putK d (.list none sz []) else s.putK d (.sl id (off + l.toNat * sz) (h.toNat - l.toNat) sz)) else none
      | _, _ => none
    | _ => none
theorem e_slc_eq (gl : Glob) (d : Nat) (szz : Nat) (x : Opd) (lo : Option Opd) (hi : Option Opd) (s : St) : e_slc gl d szz x lo hi s = ev gl s (.slc d szz x lo hi) := by
  simp only [e_slc, ev, evOK_eq, bndK_eq, St.putK_eq] <;> rfl
noncomputable def e_sla (gl : Glob) (d : Nat) (x : Opd) (n : Nat) (sz : Nat) (lo : Option Opd) (hi : Option Opd) (s : St) : Option St := match adrK gl s.env x with
    | some (.im cs) => if cs.length = n * sz ∧ n ≤ 1000 then match bndK gl s.env 0 lo, bndK gl s.env n hi with
      | some l, some h => if 0 ≤ l ∧ l ≤ h ∧ h ≤ n then s.putK d (.list none sz (((chunk sz n cs).take h.toNat).drop l.toNat)) else none
      | _, _ => none
      else none
    | _ => none
theorem e_sla_eq (gl : Glob) (d : Nat) (x : Opd) (n : Nat) (sz : Nat) (lo : Option Opd) (hi : Option Opd) (s : St) : e_sla gl d x n sz lo hi s = ev gl s (.sla d x n sz lo hi) := by
  simp only [e_sla, ev, adrK_eq, bndK_eq, St.putK_eq] <;> rfl
noncomputable def e_app (gl : Glob) (d : Nat) (u : Nat) (x : Opd) (e : Nat) (sz : Nat) (s : St) : Option St := match Env.getK s.env u, (evOK gl s.env x).bind AV.lst with
    | some (.v (.list (some e') sz' xs)), some (sz'', ys) =>
      if e' = e ∧ sz' = sz ∧ sz'' = sz ∧ d ≠ u ∧ xs.length + ys.length ≤ M then
        (s.putK u (.list none sz xs)).bind fun s => s.putK d (.list (some e) sz (xs ++ ys)) else none
    | some (.v (.nils sz')), some (sz'', ys) => if sz' = sz ∧ sz'' = sz ∧ d ≠ u ∧ ys.length ≤ M then s.putK d (.list (some e) sz ys) else none
    | _, _ => none
theorem e_app_eq (gl : Glob) (d : Nat) (u : Nat) (x : Opd) (e : Nat) (sz : Nat) (s : St) : e_app gl d u x e sz s = ev gl s (.app d u x e sz) := by
  simp only [e_app, ev, Env.getK_eq, evOK_eq, St.putK_eq] <;> rfl
noncomputable def e_nilchk (_gl : Glob) (d : Nat) (x : Opd) (s : St) : Option St := match x with
    | .t n => match Env.getK s.env n with
      | some (.b _) => s.putAK d n 0
      | some (.a t off) => s.putAK d t off
      | some (.v (.ptr id off)) => s.putK d (.ptr id off)
      | some (.v (.cptr cs)) => s.putK d (.cptr cs)
      | _ => none
    | _ => none
theorem e_nilchk_eq (gl : Glob) (d : Nat) (x : Opd) (s : St) : e_nilchk gl d x s = ev gl s (.nilchk d x) := by
  simp only [e_nilchk, ev, Env.getK_eq, St.putK_eq, St.putAK_eq] <;> rfl
noncomputable def e_mkfn (gl : Glob) (d : Nat) (f : Nat) (caps : List Opd) (s : St) : Option St := (evOsK gl s.env caps).bind fun vs => if vs.all AV.one then s.putK d (.fn f (vs.map AV.noOwn)) else none
theorem e_mkfn_eq (gl : Glob) (d : Nat) (f : Nat) (caps : List Opd) (s : St) : e_mkfn gl d f caps s = ev gl s (.mkfn d f caps) := by
  simp only [e_mkfn, ev, evOsK_eq, St.putK_eq] <;> rfl
noncomputable def e_mkself (gl : Glob) (d : Nat) (c : Opd) (e : Nat) (sz : Nat) (s : St) : Option St := match evOK gl s.env c with
    | some (.int _ n) => if 0 ≤ n ∧ n ≤ M then s.putK d (.list (some e) sz []) else none
    | _ => none
theorem e_mkself_eq (gl : Glob) (d : Nat) (c : Opd) (e : Nat) (sz : Nat) (s : St) : e_mkself gl d c e sz s = ev gl s (.mkself d c e sz) := by
  simp only [e_mkself, ev, evOK_eq, St.putK_eq] <;> rfl
noncomputable def e_allocT (_gl : Glob) (d : Nat) (e : Nat) (z : List AV) (s : St) : Option St := ({ s with heap := s.heap ++ [AObj.buf e z, .dead] }).putK d (.ptr s.heap.length 0)
theorem e_allocT_eq (gl : Glob) (d : Nat) (e : Nat) (z : List AV) (s : St) : e_allocT gl d e z s = ev gl s (.allocT d e z) := by
  simp only [e_allocT, ev, St.putK_eq] <;> rfl
noncomputable def e_cvt (gl : Glob) (d : Nat) (x : Opd) (e : Nat) (sz : Nat) (s : St) : Option St := match evOK gl s.env x with
    | some (.ptr id 0) => (match s.heap[id]? with | some (.buf e' cs) => if e' = e ∧ sz ≤ cs.length then s.putK d (.ptr id 0) else none | _ => none)
    | _ => none
theorem e_cvt_eq (gl : Glob) (d : Nat) (x : Opd) (e : Nat) (sz : Nat) (s : St) : e_cvt gl d x e sz s = ev gl s (.cvt d x e sz) := by
  simp only [e_cvt, ev, evOK_eq, St.putK_eq] <;> rfl
noncomputable def e_mm (gl : Glob) (d : Nat) (mx : Bool) (x : Opd) (y : Opd) (s : St) : Option St := match evOK gl s.env x, evOK gl s.env y with
    | some (.int k a), some (.int _ b) => s.putK d (.int k (if mx = true then (if b > a then b else a) else (if b < a then b else a)))
    | _, _ => none
theorem e_mm_eq (gl : Glob) (d : Nat) (mx : Bool) (x : Opd) (y : Opd) (s : St) : e_mm gl d mx x y s = ev gl s (.mm d mx x y) := by
  simp only [e_mm, ev, evOK_eq, St.putK_eq] <;> rfl
noncomputable def e_mkmap (_gl : Glob) (d : Nat) (s : St) : Option St := ({ s with heap := s.heap ++ [AObj.map 0 []] }).putK d (.map s.heap.length)
theorem e_mkmap_eq (gl : Glob) (d : Nat) (s : St) : e_mkmap gl d s = ev gl s (.mkmap d) := by
  simp only [e_mkmap, ev, St.putK_eq] <;> rfl
noncomputable def e_look (gl : Glob) (ks : List Nat) (d : Nat) (m : Opd) (k : Opd) (zero : AV) (ok : Bool) (s : St) : Option St := match evOK gl s.env m, evOK gl s.env k with
    | some (.map id), some kk => match s.heap[id]? with
      | some (.map _ es) => if keyFit ks kk && headFit ks es then
          (match mapGet es kk with
           | some v => s.putK d (if ok = true then .tup [v.noOwn, .bool true] else v.noOwn)
           | none => s.putK d (if ok = true then .tup [zero, .bool false] else zero)) else none
      | _ => none
    | some .nilm, some kk => if keyFit ks kk then s.putK d (if ok = true then .tup [zero, .bool false] else zero) else none
    | _, _ => none
theorem e_look_eq (gl : Glob) (ks : List Nat) (d : Nat) (m : Opd) (k : Opd) (zero : AV) (ok : Bool) (s : St) : e_look gl ks d m k zero ok s = ev gl s (.look ks d m k zero ok) := by
  simp only [e_look, ev, evOK_eq, St.putK_eq] <;> rfl
noncomputable def e_lookT (gl : Glob) (ks : List Nat) (d : Nat) (m : Opd) (k : Opd) (zero : AV) (s : St) : Option St := match evOK gl s.env m, evOK gl s.env k with
    | some (.map id), some kk => match s.heap[id]? with
      | some (.map n es) => if keyFit ks kk && headFit ks es then
          (match mapGet es kk with
           | some (.list (some e) sz xs) => ({ s with heap := s.heap.set id (.map n (mapSet es kk (.list none sz xs))) }).putK d (.list (some e) sz xs)
           | some _ => none
           | none => s.putK d zero) else none
      | _ => none
    | _, _ => none
theorem e_lookT_eq (gl : Glob) (ks : List Nat) (d : Nat) (m : Opd) (k : Opd) (zero : AV) (s : St) : e_lookT gl ks d m k zero s = ev gl s (.lookT ks d m k zero) := by
  simp only [e_lookT, ev, evOK_eq, St.putK_eq] <;> rfl
noncomputable def e_upd (gl : Glob) (ks : List Nat) (m : Opd) (k : Opd) (v : Opd) (s : St) : Option St := match evOK gl s.env m, evOK gl s.env k, evOK gl s.env v with
    | some (.map id), some kk, some v => match s.heap[id]? with
      | some (.map n es) => if keyFit ks kk && headFit ks es then some { s with heap := s.heap.set id (mapPut n es kk v.noOwn) } else none
      | _ => none
    | _, _, _ => none
theorem e_upd_eq (gl : Glob) (ks : List Nat) (m : Opd) (k : Opd) (v : Opd) (s : St) : e_upd gl ks m k v s = ev gl s (.upd ks m k v) := by
  simp only [e_upd, ev, evOK_eq] <;> rfl
noncomputable def e_updT (gl : Glob) (ks : List Nat) (m : Opd) (k : Opd) (v : Nat) (s : St) : Option St := match evOK gl s.env m, evOK gl s.env k, Env.getK s.env v with
    | some (.map id), some kk, some (.v (.list (some e) sz xs)) => match s.heap[id]? with
      | some (.map n es) => if keyFit ks kk && headFit ks es then ({ s with heap := s.heap.set id (mapPut n es kk (.list (some e) sz xs)) }).putK v (.list none sz xs) else none
      | _ => none
    | _, _, _ => none
theorem e_updT_eq (gl : Glob) (ks : List Nat) (m : Opd) (k : Opd) (v : Nat) (s : St) : e_updT gl ks m k v s = ev gl s (.updT ks m k v) := by
  simp only [e_updT, ev, Env.getK_eq, evOK_eq, St.putK_eq] <;> rfl
noncomputable def e_mdel (gl : Glob) (ks : List Nat) (d : Option Nat) (m : Opd) (k : Opd) (s : St) : Option St := match evOK gl s.env m, evOK gl s.env k with
    | some (.map id), some kk => match s.heap[id]? with
      | some (.map n es) => if keyFit ks kk && headFit ks es then ({ s with heap := s.heap.set id (.map n (mapDel es kk)) }).putO d (.tup []) else none
      | _ => none
    | _, _ => none
theorem e_mdel_eq (gl : Glob) (ks : List Nat) (d : Option Nat) (m : Opd) (k : Opd) (s : St) : e_mdel gl ks d m k s = ev gl s (.mdel ks d m k) := by
  simp only [e_mdel, ev, evOK_eq] <;> rfl
noncomputable def e_rng (gl : Glob) (d : Nat) (m : Opd) (s : St) : Option St := match evOK gl s.env m with
    | some (.map id) => match s.heap[id]? with
      | some (.map n _) => ({ s with heap := s.heap ++ [AObj.iter (some id) n []] }).putK d (.ptr s.heap.length 0)
      | _ => none
    | some .nilm => ({ s with heap := s.heap ++ [AObj.iter none 0 []] }).putK d (.ptr s.heap.length 0)
    | _ => none
theorem e_rng_eq (gl : Glob) (d : Nat) (m : Opd) (s : St) : e_rng gl d m s = ev gl s (.rng d m) := by
  simp only [e_rng, ev, evOK_eq, St.putK_eq] <;> rfl
noncomputable def e_entr (gl : Glob) (d : Nat) (it : Opd) (s : St) : Option St := match evOK gl s.env it with
    | some (.ptr id 0) => match s.heap[id]? with
      | some (.iter (some mid) since seen) => match s.heap[mid]?, seen.getLast? with
        | some (.map n es), some k => if n = since then (mapGet es k).bind fun v => s.putK d (.tup [k, v.noOwn]) else none
        | _, _ => none
      | _ => none
    | _ => none
theorem e_entr_eq (gl : Glob) (d : Nat) (it : Opd) (s : St) : e_entr gl d it s = ev gl s (.entr d it) := by
  simp only [e_entr, ev, evOK_eq, St.putK_eq] <;> rfl
noncomputable def e_litO (gl : Glob) (d : Nat) (e : Nat) (sz : Nat) (xs : List Opd) (s : St) : Option St := (evOsK gl s.env xs).bind fun vs =>
      if vs.all (fun v => v.noOwn.pure && v.cells.length == sz) && decide (vs.length ≤ 1000) then s.putK d (.list (some e) sz (vs.map AV.noOwn)) else none
theorem e_litO_eq (gl : Glob) (d : Nat) (e : Nat) (sz : Nat) (xs : List Opd) (s : St) : e_litO gl d e sz xs s = ev gl s (.litO d e sz xs) := by
  simp only [e_litO, ev, evOsK_eq, St.putK_eq] <;> rfl
noncomputable def e_litH (gl : Glob) (d : Nat) (e : Nat) (sz : Nat) (xs : List Opd) (s : St) : Option St := (evOsK gl s.env xs).bind fun vs =>
      if vs.all (fun v => v.cells.length == sz && v.cells.all AV.one) && decide (vs.length ≤ 1000) && sz != 0 then
        ({ s with heap := s.heap ++ [AObj.buf e (vs.map fun v : AV => v.cells.map AV.noOwn).flatten, .dead] }).putK d (.sl s.heap.length 0 vs.length sz) else none
theorem e_litH_eq (gl : Glob) (d : Nat) (e : Nat) (sz : Nat) (xs : List Opd) (s : St) : e_litH gl d e sz xs s = ev gl s (.litH d e sz xs) := by
  simp only [e_litH, ev, evOsK_eq, St.putK_eq] <;> rfl
noncomputable def e_mks (gl : Glob) (d : Nat) (e : Nat) (z : List AV) (x : Opd) (s : St) : Option St := match evOK gl s.env x with
    | some (.int _ n) => if 0 ≤ n ∧ n ≤ 100000 then ({ s with heap := s.heap ++ [AObj.buf e (List.replicate n.toNat z).flatten, .dead] }).putK d (.sl s.heap.length 0 n.toNat z.length) else none
    | _ => none
theorem e_mks_eq (gl : Glob) (d : Nat) (e : Nat) (z : List AV) (x : Opd) (s : St) : e_mks gl d e z x s = ev gl s (.mks d e z x) := by
  simp only [e_mks, ev, evOK_eq, St.putK_eq] <;> rfl
noncomputable def e_apph (gl : Glob) (d : Nat) (e : Nat) (sz : Nat) (sb : Bool) (u : Opd) (x : Opd) (s : St) : Option St := match evOK gl s.env u, (evOK gl s.env x).bind (AV.lstB sb) with
    | some (.nils sz0), some (sz', ys) => if sz0 = sz ∧ sz' = sz ∧ ys.length ≤ M then match ys with
        | [] => s.putK d (.nils sz)
        | _ :: _ => ({ s with heap := s.heap ++ [AObj.buf e (ys.map fun v : AV => v.cells.map AV.noOwn).flatten, .dead] }).putK d (.sl s.heap.length 0 ys.length sz)
        else none
    | some (.sl id 0 n sz0), some (sz', ys) => match s.heap[id]? with
      | some (.buf e' cs) => if e' = e ∧ sz0 = sz ∧ sz' = sz ∧ n * sz ≤ cs.length ∧ n + ys.length ≤ M then
          ({ s with heap := s.heap.set id .dead ++ [AObj.buf e ((cs.take (n * sz)).map AV.noOwn ++ (ys.map fun v : AV => v.cells.map AV.noOwn).flatten), .dead] }).putK d (.sl s.heap.length 0 (n + ys.length) sz) else none
      | _ => none
    | _, _ => none
theorem e_apph_eq (gl : Glob) (d : Nat) (e : Nat) (sz : Nat) (sb : Bool) (u : Opd) (x : Opd) (s : St) : e_apph gl d e sz sb u x s = ev gl s (.apph d e sz sb u x) := by
  simp only [e_apph, ev, evOK_eq, St.putK_eq] <;> rfl
noncomputable def e_appc (gl : Glob) (d : Nat) (u : Nat) (x : Opd) (e : Nat) (sz : Nat) (s : St) : Option St := match Env.getK s.env u, (evOK gl s.env x).bind AV.lst with
    | some (.v (.nilc sz')), some (sz'', ys) => if sz' = sz ∧ sz'' = sz ∧ ys.length ≤ M then match ys with
        | [] => s.putK d (.list none sz [])
        | _ :: _ => s.putK d (.list (some e) sz ys)
        else none
    | _, _ => none
theorem e_appc_eq (gl : Glob) (d : Nat) (u : Nat) (x : Opd) (e : Nat) (sz : Nat) (s : St) : e_appc gl d u x e sz s = ev gl s (.appc d u x e sz) := by
  simp only [e_appc, ev, Env.getK_eq, evOK_eq, St.putK_eq] <;> rfl
noncomputable def e_appd (gl : Glob) (d : Nat) (u : Nat) (x : Opd) (e : Nat) (sz : Nat) (s : St) : Option St := match Env.getK s.env u, (evOK gl s.env x).bind AV.lst with
    | some (.v (.nilc sz')), some (sz'', ys) => if sz' = sz ∧ sz'' = sz ∧ ys.length ≤ M then match ys with
        | [] => s.putK d (.list none sz [])
        | _ :: _ => ({ s with heap := s.heap ++ [AObj.buf e (ys.map fun v : AV => v.cells.map AV.noOwn).flatten, .dead] }).putK d (.sl s.heap.length 0 ys.length sz)
        else none
    | _, _ => none
theorem e_appd_eq (gl : Glob) (d : Nat) (u : Nat) (x : Opd) (e : Nat) (sz : Nat) (s : St) : e_appd gl d u x e sz s = ev gl s (.appd d u x e sz) := by
  simp only [e_appd, ev, Env.getK_eq, evOK_eq, St.putK_eq] <;> rfl
noncomputable def e_isnil (gl : Glob) (d : Nat) (ne : Bool) (x : Opd) (s : St) : Option St := match evOK gl s.env x with
    | some (.nils _) => s.putK d (.bool (!ne))
    | some (.list _ _ (_ :: _)) => s.putK d (.bool ne)
    | _ => none
theorem e_isnil_eq (gl : Glob) (d : Nat) (ne : Bool) (x : Opd) (s : St) : e_isnil gl d ne x s = ev gl s (.isnil d ne x) := by
  simp only [e_isnil, ev, evOK_eq, St.putK_eq] <;> rfl
noncomputable def e_clo (gl : Glob) (d : Nat) (x : Opd) (sz : Nat) (s : St) : Option St := match evOK gl s.env x with
    | some (.list _ sz' _) => if sz' = sz then s.putK d (.nilc sz) else none
    | some (.nils sz') => if sz' = sz then s.putK d (.nilc sz) else none
    | _ => none
theorem e_clo_eq (gl : Glob) (d : Nat) (x : Opd) (sz : Nat) (s : St) : e_clo gl d x sz s = ev gl s (.clo d x sz) := by
  simp only [e_clo, ev, evOK_eq, St.putK_eq] <;> rfl
noncomputable def e_sdata (gl : Glob) (d : Nat) (x : Opd) (s : St) : Option St := match evOK gl s.env x with
    | some (.sl id off n _) => if 0 < n then s.putK d (.ptr id off) else none
    | some (.nils _) => s.putK d .nilp
    | _ => none
theorem e_sdata_eq (gl : Glob) (d : Nat) (x : Opd) (s : St) : e_sdata gl d x s = ev gl s (.sdata d x) := by
  simp only [e_sdata, ev, evOK_eq, St.putK_eq] <;> rfl
noncomputable def e_ustr (gl : Glob) (d : Nat) (e : Nat) (x : Opd) (n : Opd) (s : St) : Option St := match evOK gl s.env x, evOK gl s.env n with
    | some (.ptr id 0), some (.int .i64 n) => match s.heap[id]? with
      | some (.buf e' cs) => if e' = e ∧ 0 < n ∧ n ≤ cs.length ∧ n ≤ M then (bytesOf (cs.take n.toNat)).bind fun b => ({ s with heap := s.heap.set id .dead }).putK d (.str b) else none
      | _ => none
    | some .nilp, some (.int .i64 n) => if n = 0 then s.putK d (.str []) else none
    | _, _ => none
theorem e_ustr_eq (gl : Glob) (d : Nat) (e : Nat) (x : Opd) (n : Opd) (s : St) : e_ustr gl d e x n s = ev gl s (.ustr d e x n) := by
  simp only [e_ustr, ev, evOK_eq, St.putK_eq] <;> rfl
noncomputable def e_noesc (gl : Glob) (d : Nat) (_u1 : Nat) (x : Opd) (s : St) : Option St := (evOK gl s.env x).bind fun v => s.putK d v.noOwn
theorem e_noesc_eq (gl : Glob) (d : Nat) (_u1 : Nat) (x : Opd) (s : St) : e_noesc gl d _u1 x s = ev gl s (.noesc d _u1 x) := by
  simp only [e_noesc, ev, evOK_eq, St.putK_eq] <;> rfl
noncomputable def e_cmps (gl : Glob) (d : Nat) (_u1 : Nat) (x : Opd) (y : Opd) (s : St) : Option St := match evOK gl s.env x, evOK gl s.env y with
    | some (.str a), some (.str b) => s.putK d (.int .i64 (cmpB a b))
    | _, _ => none
theorem e_cmps_eq (gl : Glob) (d : Nat) (_u1 : Nat) (x : Opd) (y : Opd) (s : St) : e_cmps gl d _u1 x y s = ev gl s (.cmps d _u1 x y) := by
  simp only [e_cmps, ev, evOK_eq, St.putK_eq] <;> rfl
end AM
/-! The lighter interpreter: its code, its calls; it is sound. -/
namespace AM
open Go
noncomputable def evK1 (gl : Glob) (o : SOp) (s : St) : Option St := match o with
  | .mv d x => e_mv gl d x s
  | .tk d x => e_tk gl d x s
  | .nil_ d e sz => e_nil_ gl d e sz s
  | .pick d c a b => e_pick gl d c a b s
  | .bin d m op x y => e_bin gl d m op x y s
  | .eqa d ne ks x y => e_eqa gl d ne ks x y s
  | .not_ d x => e_not_ gl d x s
  | .neg d x => e_neg gl d x s
  | .conv d k x => e_conv gl d k x s
  | .ext d x i => e_ext gl d x i s
  | .len d m x => e_len gl d m x s
  | .alloc d z => e_alloc gl d z s
  | .box d x => e_box gl d x s
  | .allocH d z => e_allocH gl d z s
  | .boxH d x => e_boxH gl d x s
  | .boxI d x => e_boxI gl d x s
  | .build d z parts => e_build gl d z parts s
  | .lit d sz xs => e_lit gl d sz xs s
  | .fa d x off => e_fa gl d x off s
  | .ia d sz x i => e_ia gl d sz x i s
  | .iaa d x n sz i => e_iaa gl d x n sz i s
  | .ld d x n ag => e_ld gl d x n ag s
  | .ldt d x e sz => e_ldt gl d x e sz s
  | .st n x v => e_st gl n x v s
  | .stt x v => e_stt gl x v s
  | .idx d x i => e_idx gl d x i s
  | .slc d szz x lo hi => e_slc gl d szz x lo hi s
  | .sla d x n sz lo hi => e_sla gl d x n sz lo hi s
  | .app d u x e sz => e_app gl d u x e sz s
  | .nilchk d x => e_nilchk gl d x s
  | .mkfn d f caps => e_mkfn gl d f caps s
  | .mkself d c e sz => e_mkself gl d c e sz s
  | .allocT d e z => e_allocT gl d e z s
  | .cvt d x e sz => e_cvt gl d x e sz s
  | .mm d mx x y => e_mm gl d mx x y s
  | .mkmap d => e_mkmap gl d s
  | .look ks d m k zero ok => e_look gl ks d m k zero ok s
  | .lookT ks d m k zero => e_lookT gl ks d m k zero s
  | .upd ks m k v => e_upd gl ks m k v s
  | .updT ks m k v => e_updT gl ks m k v s
  | .mdel ks d m k => e_mdel gl ks d m k s
  | .rng d m => e_rng gl d m s
  | .entr d it => e_entr gl d it s
  | .litO d e sz xs => e_litO gl d e sz xs s
  | .litH d e sz xs => e_litH gl d e sz xs s
  | .mks d e z x => e_mks gl d e z x s
  | .apph d e sz sb u x => e_apph gl d e sz sb u x s
  | .appc d u x e sz => e_appc gl d u x e sz s
  | .appd d u x e sz => e_appd gl d u x e sz s
  | .isnil d ne x => e_isnil gl d ne x s
  | .clo d x sz => e_clo gl d x sz s
  | .sdata d x => e_sdata gl d x s
  | .ustr d e x n => e_ustr gl d e x n s
  | .noesc d _u1 x => e_noesc gl d _u1 x s
  | .cmps d _u1 x y => e_cmps gl d _u1 x y s
  | o => ev gl s o
theorem evK1_eq (gl : Glob) (s : St) : ∀ o, evK1 gl o s = ev gl s o
  | .mv d x => e_mv_eq gl d x s
  | .tk d x => e_tk_eq gl d x s
  | .nil_ d e sz => e_nil__eq gl d e sz s
  | .pick d c a b => e_pick_eq gl d c a b s
  | .bin d m op x y => e_bin_eq gl d m op x y s
  | .eqa d ne ks x y => e_eqa_eq gl d ne ks x y s
  | .not_ d x => e_not__eq gl d x s
  | .neg d x => e_neg_eq gl d x s
  | .conv d k x => e_conv_eq gl d k x s
  | .ext d x i => e_ext_eq gl d x i s
  | .len d m x => e_len_eq gl d m x s
  | .alloc d z => e_alloc_eq gl d z s
  | .box d x => e_box_eq gl d x s
  | .allocH d z => e_allocH_eq gl d z s
  | .boxH d x => e_boxH_eq gl d x s
  | .boxI d x => e_boxI_eq gl d x s
  | .build d z parts => e_build_eq gl d z parts s
  | .lit d sz xs => e_lit_eq gl d sz xs s
  | .fa d x off => e_fa_eq gl d x off s
  | .ia d sz x i => e_ia_eq gl d sz x i s
  | .iaa d x n sz i => e_iaa_eq gl d x n sz i s
  | .ld d x n ag => e_ld_eq gl d x n ag s
  | .ldt d x e sz => e_ldt_eq gl d x e sz s
  | .st n x v => e_st_eq gl n x v s
  | .stt x v => e_stt_eq gl x v s
  | .idx d x i => e_idx_eq gl d x i s
  | .slc d szz x lo hi => e_slc_eq gl d szz x lo hi s
  | .sla d x n sz lo hi => e_sla_eq gl d x n sz lo hi s
  | .app d u x e sz => e_app_eq gl d u x e sz s
  | .nilchk d x => e_nilchk_eq gl d x s
  | .mkfn d f caps => e_mkfn_eq gl d f caps s
  | .mkself d c e sz => e_mkself_eq gl d c e sz s
  | .allocT d e z => e_allocT_eq gl d e z s
  | .cvt d x e sz => e_cvt_eq gl d x e sz s
  | .mm d mx x y => e_mm_eq gl d mx x y s
  | .mkmap d => e_mkmap_eq gl d s
  | .look ks d m k zero ok => e_look_eq gl ks d m k zero ok s
  | .lookT ks d m k zero => e_lookT_eq gl ks d m k zero s
  | .upd ks m k v => e_upd_eq gl ks m k v s
  | .updT ks m k v => e_updT_eq gl ks m k v s
  | .mdel ks d m k => e_mdel_eq gl ks d m k s
  | .rng d m => e_rng_eq gl d m s
  | .entr d it => e_entr_eq gl d it s
  | .litO d e sz xs => e_litO_eq gl d e sz xs s
  | .litH d e sz xs => e_litH_eq gl d e sz xs s
  | .mks d e z x => e_mks_eq gl d e z x s
  | .apph d e sz sb u x => e_apph_eq gl d e sz sb u x s
  | .appc d u x e sz => e_appc_eq gl d u x e sz s
  | .appd d u x e sz => e_appd_eq gl d u x e sz s
  | .isnil d ne x => e_isnil_eq gl d ne x s
  | .clo d x sz => e_clo_eq gl d x sz s
  | .sdata d x => e_sdata_eq gl d x s
  | .ustr d e x n => e_ustr_eq gl d e x n s
  | .noesc d _u1 x => e_noesc_eq gl d _u1 x s
  | .cmps d _u1 x y => e_cmps_eq gl d _u1 x y s
  | .on _ _ | .bad _ | .callP _ _ _ | .callI _ _ _ | .callR _ _ _ | .callG _ _ _ _ | .callV _ _ _ | .nxt _ _ => rfl
/-- Known pure calls. -/
def DtOk (P : Program) (gl : Glob) (dt : Dets) : Prop := ∀ f xs r, dt f xs = some r → chkCallee P f = true ∧ xs.all AV.arg = true ∧ Det P gl f xs r
noncomputable def dOf (dt : Dets) (call : Caller) : Dets := fun f xs => match dt f xs with | some r => some r | none => detOf call f xs
def w1 : Option St → Option (List St)
  | some s => some [s]
  | none => none
theorem w1_eq (o : Option St) : w1 o = o.map fun s => [s] := by cases o <;> rfl
section
variable (gl : Glob) (dt : Dets) (call : Caller)
noncomputable def opK (s : St) : SOp → Option (List St)
  | .callP d f xs => match evOsK gl s.env xs with
    | some vs => match dt f (vs.map AV.noOwn) with
      | some r => w1 (s.putO d r)
      | none => if (vs.map AV.noOwn).all AV.arg then match detOf call f (vs.map AV.noOwn) with
        | some r => w1 (s.putO d r)
        | none => none
        else none
    | none => none
  | .callI d f xs => opC gl call s (.callI d f xs)
  | .callR d f xs => opC gl call s (.callR d f xs)
  | .callV d x xs => opC gl call s (.callV d x xs)
  | .callG d f u xs => opC gl call s (.callG d f u xs)
  | .nxt d it => opC gl call s (.nxt d it)
  | .on m o => if adrKind s.env (adrOf o) = m then w1 (evK1 gl o s) else none
  | o => w1 (evK1 gl o s)
noncomputable def regK : List It → St → Option (List St)
  | [], s => some [s]
  | it :: r, s => match guardV s.env it.g with
    | some true => match opK gl dt call s it.o with
      | some [s'] => regK r s'
      | some l => bindL (regK r) l
      | none => none
    | some false => match dstOf it.o with
      | some d => match s.putK d (.tup []) with | some s' => regK r s' | none => none
      | none => regK r s
    | none => none
noncomputable def execK (lf : Nat) : SCode → St → Option (List (Ex × St))
  | .skip, s => some [(.normal, s)]
  | .reg its dr, s => match regK gl dt call its s with
    | some [s'] => @St.rec (fun _ => Option (List (Ex × St))) (fun e h => e.closeK dr fun e' => some [(.normal, ⟨e', h⟩)]) s'
    | some l => some (l.map fun s => (.normal, { s with env := s.env.close dr }))
    | none => none
  | .seq a b, s => match execK lf a s with
    | some [(.normal, s')] => execK lf b s'
    | some l => bindL (fun p => match p.1 with | .normal => execK lf b p.2 | e => some [(e, p.2)]) l
    | none => none
  | .cond c a b, s => match evOK gl s.env c with
    | some (.bool t) => if t then execK lf a s else execK lf b s
    | _ => none
  | .block id c, s => (execK lf c s).map fun l => l.map (blkE id)
  | .loop c, s => loopC (execK lf c) lf s
  | .exit id, s => some [(.exit id, s)]
  | .ret, s => some [(.ret, s)]
  | .asm t c, s => match Env.get s.env t with
    | some (.v (.list _ _ _)) => execK lf c s
    | some (.v (.str _)) => execK lf c s
    | _ => none
  | .drop ts c, s => execK lf c { s with env := s.env.close ts }
  | .frz t e sz c, s => match frzS s t e sz with | some s => execK lf c s | none => none
  | .frzb t off e sz c, s => match frzbS s t off e sz with | some s => execK lf c s | none => none
  | .kill t c, s => execK lf c (killS s t)
  | .bad, _ => none
end
section
variable (gl : Glob) (dt : Dets) (T : Tab) (orc : Caller) (lf : Nat)
noncomputable def callK : Nat → Caller
  | 0 => fun _ _ _ => none
  | n + 1 => fun f xs H => match orc f xs H with
    | some l => some l
    | none => match T f with
      | some (sc, rvs, k) => if xs.length = k then (match (execK gl dt (callK n) lf sc ⟨pEnv 0 xs, H⟩).bind (bindL (finE rvs)) with
        | some [p] => some [p]
        | some l => some (dedup l)
        | none => none) else none
      | none => none
end
section
variable {P : Program} {gl : Glob} {dt : Dets} {call : Caller}
theorem opX_D {D D' : Dets} {s : St} {K : St → Prop} {o : SOp} (h : ∀ d f xs, o ≠ .callP d f xs) (hX : opX P gl D s K o) : opX P gl D' s K o := by
  cases o <;> first | exact hX | exact absurd rfl (h _ _ _)
theorem opK_sound (hd : DtOk P gl dt) (hcall : CallerOk P gl call) {s : St} {o : SOp} {l : List St} (h : opK gl dt call s o = some l) : opX P gl (dOf dt call) s (fun s' => s' ∈ l) o := by
  have hc : ∀ o', (∀ d f xs, o' ≠ .callP d f xs) → opC gl call s o' = some l → opX P gl (dOf dt call) s (fun s' => s' ∈ l) o' := fun o' hn h => opX_D hn (opC_sound hcall h)
  have hgen : ∀ o', w1 (evK1 gl o' s) = some l → (ev gl s o').map (fun s => [s]) = some l := fun o' h => by
    rw [w1_eq, evK1_eq] at h; exact h
  cases o
  case callP d f xs =>
    simp only [opK, evOsK_eq] at h
    simp only [opX]
    split at h
    · rename_i vs hvs
      rw [hvs]
      simp only
      split at h
      · rename_i r hr
        obtain ⟨_, h1, h2⟩ := hd _ _ _ hr
        refine ⟨h1, ?_⟩
        rw [w1_eq, Option.map_eq_some_iff] at h
        obtain ⟨s', h3, rfl⟩ := h
        simp only [dOf, hr]
        exact ⟨h2, by rw [h3]; simp⟩
      · rename_i hr
        split at h
        · rename_i ha
          refine ⟨ha, ?_⟩
          split at h
          · rename_i r hr2
            rw [w1_eq, Option.map_eq_some_iff] at h
            obtain ⟨s', h3, rfl⟩ := h
            simp only [dOf, hr, hr2]
            exact ⟨detOf_sound hcall ha hr2, by rw [h3]; simp⟩
          · cases h
        · cases h
    · cases h
  case callI => exact hc _ (by simp) h
  case callR => exact hc _ (by simp) h
  case callV => exact hc _ (by simp) h
  case callG => exact hc _ (by simp) h
  case nxt => exact hc _ (by simp) h
  case on m o =>
    simp only [opK] at h
    split at h
    · rename_i hm
      refine hc _ (by simp) ?_
      have := hgen _ h
      simp only [opC, ev, hm, if_true]
      exact this
    · cases h
  case bad d => exact hc _ (by simp) (hgen (.bad d) h)
  all_goals exact hc _ (by simp) (hgen _ h)
theorem regK_sound (hd : DtOk P gl dt) (hcall : CallerOk P gl call) : ∀ {its : List It} {s : St} {l : List St}, regK gl dt call its s = some l → runR P gl (dOf dt call) its s (fun s' => s' ∈ l)
  | [], s, l, h => by simp [regK] at h; subst h; simp [runR]
  | it :: r, s, l, h => by
    simp only [regK, St.putK_eq] at h
    simp only [runR]
    split at h
    · rename_i hg
      rw [hg]
      simp only
      split at h
      · rename_i s' ho
        refine opX_mono (opK_sound hd hcall ho) fun s1 hs1 => ?_
        simp at hs1; subst hs1
        exact regK_sound hd hcall h
      · rename_i l' _ ho
        refine opX_mono (opK_sound hd hcall ho) fun s1 hs1 => ?_
        obtain ⟨x, h1, h2⟩ := bindL_mem h s1 hs1
        exact runR_mono (fun s' hs' => h2 s' hs') (regK_sound hd hcall h1)
      · cases h
    · rename_i hg
      rw [hg]
      simp only
      split at h
      · rename_i d hd'
        simp only [hd']
        split at h
        · rename_i s' hs
          simp only [hs]
          exact regK_sound hd hcall h
        · cases h
      · rename_i hd'
        simp only [hd']
        exact regK_sound hd hcall h
    · cases h
theorem execK_sound (hd : DtOk P gl dt) (hcall : CallerOk P gl call) (lf : Nat) : ∀ (sc : SCode) {s : St} {l : List (Ex × St)}, execK gl dt call lf sc s = some l → exec P gl (dOf dt call) sc s fun e s' => (e, s') ∈ l := by
  intro sc
  induction sc with
  | skip => intro s l h; simp [execK] at h; subst h; simp [exec]
  | exit i => intro s l h; simp [execK] at h; subst h; simp [exec]
  | ret => intro s l h; simp [execK] at h; subst h; simp [exec]
  | bad => intro s l h; simp [execK] at h
  | reg its dr =>
    intro s l h
    simp only [execK] at h
    simp only [exec]
    split at h
    · rename_i s' hr
      obtain ⟨e, H⟩ := s'
      have h' : e.closeK dr (fun e' => some [(Ex.normal, (⟨e', H⟩ : St))]) = some l := h
      rw [Env.closeK_eq] at h'
      simp at h'; subst h'
      refine runR_mono (fun s1 hs1 => ?_) (regK_sound hd hcall hr)
      simp at hs1; subst hs1
      simp
    · rename_i l' _ hr
      simp at h; subst h
      exact runR_mono (fun s' hs' => List.mem_map.2 ⟨s', hs', rfl⟩) (regK_sound hd hcall hr)
    · cases h
  | seq x y ihx ihy =>
    intro s l h
    simp only [execK] at h
    simp only [exec]
    split at h
    · rename_i s' hx
      refine exec_mono x (ihx hx) fun e s1 hm => ?_
      simp at hm
      obtain ⟨rfl, rfl⟩ := hm
      exact ihy h
    · rename_i l' _ hx
      refine exec_mono x (ihx hx) fun e s1 hm => ?_
      obtain ⟨z, h1, h2⟩ := bindL_mem h _ hm
      cases e with
      | normal => exact exec_mono y (ihy h1) fun e s2 hm2 => h2 _ hm2
      | exit i => simp at h1; subst h1; exact h2 _ (by simp)
      | ret => simp at h1; subst h1; exact h2 _ (by simp)
    · cases h
  | cond c x y ihx ihy =>
    intro s l h
    simp only [execK, evOK_eq] at h
    simp only [exec]
    split at h
    · rename_i t ht
      simp only [ht]
      cases t with
      | true => exact ihx h
      | false => exact ihy h
    · cases h
  | block i x ih =>
    intro s l h
    simp only [execK, Option.map_eq_some_iff] at h
    obtain ⟨l', h1, rfl⟩ := h
    simp only [exec]
    refine exec_mono x (ih h1) fun e s1 hm => ?_
    have hmem : blkE i (e, s1) ∈ l'.map (blkE i) := List.mem_map.2 ⟨_, hm, rfl⟩
    cases e with
    | normal => exact hmem
    | ret => exact hmem
    | exit j =>
      simp only [blkE] at hmem
      simp only
      by_cases hj : j = i
      · rw [if_pos hj] at hmem ⊢; exact hmem
      · rw [if_neg hj] at hmem ⊢; exact hmem
  | loop x ih =>
    intro s l h
    simp only [execK] at h
    have key : ∀ (n : Nat) (s : St) (l : List (Ex × St)), loopC (execK gl dt call lf x) n s = some l → exec P gl (dOf dt call) (.loop x) s fun e s' => (e, s') ∈ l := by
      intro n
      induction n with
      | zero => intro s l h; simp [loopC] at h
      | succ n ihn =>
        intro s l h
        simp only [loopC] at h
        refine exec_loop ?_
        split at h
        · rename_i s' hx
          refine exec_mono x (ih hx) fun e s1 hm => ?_
          simp at hm
          obtain ⟨rfl, rfl⟩ := hm
          exact ihn _ _ h
        · rename_i l' _ hx
          refine exec_mono x (ih hx) fun e s1 hm => ?_
          obtain ⟨z, h1, h2⟩ := bindL_mem h _ hm
          cases e with
          | normal => exact exec_mono (.loop x) (ihn _ _ h1) fun e s2 hm2 => h2 _ hm2
          | exit i => simp at h1; subst h1; exact h2 _ (by simp)
          | ret => simp at h1; subst h1; exact h2 _ (by simp)
        · cases h
    exact key lf s l h
  | asm t x ih =>
    intro s l h
    simp only [execK] at h
    simp only [exec]
    split at h
    · rename_i ht; simp only [ht]; exact fun _ => ih h
    · rename_i ht; simp only [ht]; exact fun _ => ih h
    · cases h
  | drop ts x ih => intro s l h; exact ih h
  | frz t e sz x ih =>
    intro s l h
    simp only [execK] at h
    simp only [exec]
    split at h
    · rename_i s' hs; simp only [hs]; exact ih h
    · cases h
  | frzb t off e sz x ih =>
    intro s l h
    simp only [execK] at h
    simp only [exec]
    split at h
    · rename_i s' hs; simp only [hs]; exact ih h
    · cases h
  | kill t x ih => intro s l h; exact ih h

theorem callK_sound {T : Tab} {orc : Caller} {lf : Nat} (hd : DtOk P gl dt) (hT : TabOk P T) (ho : CallerOk P gl orc) : ∀ n, CallerOk P gl (callK gl dt T orc lf n)
  | 0 => fun f xs H outs h => by simp [callK] at h
  | n + 1 => fun f xs H outs h => by
    simp only [callK] at h
    split at h
    · rename_i l hl
      simp at h; subst h
      exact ho _ _ _ _ hl
    · split at h
      · rename_i sc rvs k hTf
        split at h
        · rename_i hk
          subst hk
          have hf := hT _ _ _ _ hTf
          have key : ∀ l, (execK gl dt (callK gl dt T orc lf n) lf sc ⟨pEnv 0 xs, H⟩).bind (bindL (finE rvs)) = some l → CallT P gl f xs H fun r H' => (r, H') ∈ l := by
            intro l hl
            obtain ⟨ends, h1, h2⟩ := bind_some hl
            refine CallT.intro hf (exec_mono sc (execK_sound hd (callK_sound hd hT ho n) lf sc h1) fun e s hm => ?_)
            obtain ⟨z, h3, h4⟩ := bindL_mem h2 _ hm
            cases e with
            | exit i => simp [finE] at h3
            | normal =>
              simp only [finE, Option.map_eq_some_iff] at h3
              obtain ⟨r, h5, rfl⟩ := h3
              exact ⟨r, h5, h4 _ (by simp)⟩
            | ret =>
              simp only [finE, Option.map_eq_some_iff] at h3
              obtain ⟨r, h5, rfl⟩ := h3
              exact ⟨r, h5, h4 _ (by simp)⟩
          split at h
          · rename_i p hp
            simp at h; subst h
            exact key _ hp
          · rename_i l _ hl
            simp at h; subst h
            exact (key _ hl).mono fun r H hm => mem_dedup hm
          · cases h
        · cases h
      · cases h
end
end AM
/-! Tables of code and of known calls; a closed call by evaluation. -/
namespace AM
open Go
/-- A table of code. -/
inductive TT where
  | leaf (f : Nat) (sc : SCode) (rvs : List RV) (k : Nat)
  | node (m : Nat) (l r : TT)
noncomputable def TT.get (t : TT) (f : Nat) : Option (SCode × List RV × Nat) :=
  @TT.rec (fun _ => Option (SCode × List RV × Nat)) (fun f' sc rvs k => @Bool.rec (fun _ => Option (SCode × List RV × Nat)) none (some (sc, rvs, k)) (Nat.beq f f'))
    (fun m _ _ il ir => @Bool.rec (fun _ => Option (SCode × List RV × Nat)) ir il (Nat.blt f m)) t
def TT.Ok (P : Program) : TT → Prop
  | .leaf f sc rvs k => chkFn P f k sc rvs = true
  | .node _ l r => l.Ok P ∧ r.Ok P
theorem TT.ok {P : Program} : ∀ {t : TT}, t.Ok P → TabOk P t.get
  | .leaf f' sc' rvs' k', h => fun f sc rvs k hg => by
    have h1 : (TT.leaf f' sc' rvs' k').get f = @Bool.rec (fun _ => Option (SCode × List RV × Nat)) none (some (sc', rvs', k')) (Nat.beq f f') := rfl
    rw [h1] at hg
    cases hb : Nat.beq f f' with
    | false => rw [hb] at hg; cases hg
    | true =>
      rw [hb] at hg
      have e := Nat.eq_of_beq_eq_true hb
      subst e
      simp only [Option.some.injEq, Prod.mk.injEq] at hg
      obtain ⟨rfl, rfl, rfl⟩ := hg
      exact h
  | .node m l r, h => fun f sc rvs k hg => by
    have h1 : (TT.node m l r).get f = @Bool.rec (fun _ => Option (SCode × List RV × Nat)) (r.get f) (l.get f) (Nat.blt f m) := rfl
    rw [h1] at hg
    cases hb : Nat.blt f m with
    | false => rw [hb] at hg; exact TT.ok h.2 f sc rvs k hg
    | true => rw [hb] at hg; exact TT.ok h.1 f sc rvs k hg
/-- A table of known pure calls. -/
noncomputable def dtL (l : List (Nat × List AV × AV)) (f : Nat) (xs : List AV) : Option AV :=
  @List.rec (Nat × List AV × AV) (fun _ => Option AV) none (fun p _ ih => @Bool.rec (fun _ => Option AV) ih (@Bool.rec (fun _ => Option AV) ih (some p.2.2) (AV.beqs xs p.2.1)) (Nat.beq f p.1)) l
def DtAll (P : Program) (gl : Glob) : List (Nat × List AV × AV) → Prop
  | [] => True
  | p :: r => (chkCallee P p.1 = true ∧ p.2.1.all AV.arg = true ∧ Det P gl p.1 p.2.1 p.2.2) ∧ DtAll P gl r
theorem dtL_ok {P : Program} {gl : Glob} : ∀ {l : List (Nat × List AV × AV)}, DtAll P gl l → DtOk P gl (dtL l)
  | [], _ => fun f xs r h => by cases h
  | p :: l, hl => fun f xs r h => by
    have h1 : dtL (p :: l) f xs = @Bool.rec (fun _ => Option AV) (dtL l f xs) (@Bool.rec (fun _ => Option AV) (dtL l f xs) (some p.2.2) (AV.beqs xs p.2.1)) (Nat.beq f p.1) := rfl
    rw [h1] at h
    cases hb : Nat.beq f p.1 with
    | false => rw [hb] at h; exact dtL_ok hl.2 f xs r h
    | true =>
      rw [hb] at h
      simp only at h
      cases hx : AV.beqs xs p.2.1 with
      | false => rw [hx] at h; exact dtL_ok hl.2 f xs r h
      | true =>
        rw [hx] at h
        simp only [Option.some.injEq] at h
        have e1 := Nat.eq_of_beq_eq_true hb
        have e2 := AV.beqs_eq _ _ hx
        subst e1 e2 h
        exact hl.1
/-- A known pure call, called over a heap. -/
theorem CallT.of_det {P : Program} {gl : Glob} {f : Nat} {xs : List AV} {r : AV} {H : List AObj} (hc : chkCallee P f = true) (ha : xs.all AV.arg = true) (hd : Det P gl f xs r) : CallT P gl f xs H fun r' H' => r' = r ∧ H' = H := by
  refine ⟨hc, fun g w vs h hv _ => (hd g.γ w vs h.gam h.glob (args_vrs hv ha)).mono fun e w' hpost => ?_⟩
  obtain ⟨v, γ', rfl, h1, h2, h3, hos, h4, h5, h6⟩ := hpost
  have hown : ∀ b, v.ownBlock = some b → (∃ e sz xs, r = .list (some e) sz xs) → b < w'.heap.size ∧ w.heap.size ≤ b := by
    intro b hb ⟨e, sz, xs, hr⟩
    obtain ⟨i, z, vs, p1, p2, p3, p4, p5, p6, p7, p8, p9⟩ := h6 e sz xs hr
    have q := (p9 b hb).1
    refine ⟨(p8.lt b hb).2, ?_⟩
    simp only [gr] at q
    by_cases hlt : b < w.heap.size
    · simp [hlt] at q
    · omega
  by_cases hr : ∃ e sz xs, r = .list (some e) sz xs
  · let g1 : Gh := ⟨γ', fun b => if b < w.heap.size then g.Ω b else if v.ownBlock = some b then .var 0 else .none, g.ρ⟩
    have hle : GhLe g g1 := ⟨h1, fun _ _ h => h⟩
    have hsame : ∀ b, g.Ω b ≠ .none → g1.Ω b = g.Ω b ∧ w'.heap[b]? = w.heap[b]? ∧ ∀ o, g1.γ b o = g.γ b o := fun b hb => by
      have hlt := h.own b hb
      exact ⟨by simp [g1, hlt], (h3 b hlt).1, (h3 b hlt).2⟩
    have hrel : Rel P gl 0 g1 (heapSt H) noAct w' := h.step .none (PosFree.none _) hle (fun b hb => hsame b hb.1) h4 (fun b hb => by
      by_cases hlt : b < w.heap.size
      · omega
      · simp [g1, hlt] at hb; exact (hown b hb hr).1) h.rho
    refine ⟨v, r, H, g1, rfl, ⟨rfl, rfl⟩, ⟨hle, fun b hb => ?_, h2, hos.1, hos.2⟩, hrel, h5.mono (⟨fun _ _ _ h => h, fun _ _ h => by cases h⟩ : GhLe (gr γ' w.heap.size) g1), ?_⟩
    · obtain ⟨q1, q2, q3⟩ := hsame b (by rw [hb]; simp); exact ⟨q1.trans hb, q2, q3⟩
    · intro e sz xs hx
      obtain ⟨i, z, vs, p1, p2, p3, p4, p5, p6, p7, p8, p9⟩ := h6 e sz xs hx
      refine ⟨i, z, vs, p1, p2, p3, p4, p5, p6, p7, p8, fun b hb => ?_⟩
      have q := hown b hb hr
      exact ⟨by simp [g1, show ¬ b < w.heap.size by omega, hb], (p9 b hb).2⟩
  · let g2 : Gh := ⟨γ', fun b => if b < w.heap.size then g.Ω b else .none, g.ρ⟩
    have hle2 : GhLe g g2 := ⟨h1, fun _ _ h => h⟩
    have hsame2 : ∀ b, g.Ω b ≠ .none → g2.Ω b = g.Ω b ∧ w'.heap[b]? = w.heap[b]? ∧ ∀ o, g2.γ b o = g.γ b o := fun b hb => by
      have hlt := h.own b hb
      exact ⟨by simp [g2, hlt], (h3 b hlt).1, (h3 b hlt).2⟩
    have hrel : Rel P gl 0 g2 (heapSt H) noAct w' := h.step .none (PosFree.none _) hle2 (fun b hb => hsame2 b hb.1) h4 (fun b hb => by
      by_cases hlt : b < w.heap.size
      · omega
      · simp [g2, hlt] at hb) h.rho
    refine ⟨v, r, H, g2, rfl, ⟨rfl, rfl⟩, ⟨hle2, fun b hb => ?_, h2, hos.1, hos.2⟩, hrel, h5.mono (⟨fun _ _ _ h => h, fun _ _ h => by cases h⟩ : GhLe (gr γ' w.heap.size) g2), .of_ne fun e sz xs hx => hr ⟨e, sz, xs, hx⟩⟩
    obtain ⟨q1, q2, q3⟩ := hsame2 b (by rw [hb]; simp); exact ⟨q1.trans hb, q2, q3⟩
/-- Known pure calls as an oracle. -/
noncomputable def orcD (dt : Dets) (base : Caller) : Caller := fun f xs H => match dt f xs with | some r => some [(r, H)] | none => base f xs H
theorem orcD_ok {P : Program} {gl : Glob} {dt : Dets} {base : Caller} (hd : DtOk P gl dt) (hb : CallerOk P gl base) : CallerOk P gl (orcD dt base) := fun f xs H outs h => by
  simp only [orcD] at h
  split at h
  · rename_i r hr
    simp only [Option.some.injEq] at h; subst h
    obtain ⟨h1, h2, h3⟩ := hd _ _ _ hr
    exact (CallT.of_det h1 h2 h3).mono fun r' H' ⟨e1, e2⟩ => by subst e1 e2; simp
  · exact hb _ _ _ _ h
/-- A call over a heap, known. -/
structure KE where
  f : Nat
  xs : List AV
  H : List AObj
  outs : List ROut
noncomputable def orcL (l : List KE) (base : Caller) : Caller := fun f xs H =>
  @List.rec KE (fun _ => Option (List ROut)) (base f xs H) (fun p _ ih => @Bool.rec (fun _ => Option (List ROut)) ih (if AV.beqs xs p.xs && heapBeq H p.H then some p.outs else ih) (Nat.beq f p.f)) l
def KEAll (P : Program) (gl : Glob) : List KE → Prop
  | [] => True
  | p :: r => (CallT P gl p.f p.xs p.H fun r H' => (r, H') ∈ p.outs) ∧ KEAll P gl r
theorem orcL_ok {P : Program} {gl : Glob} {base : Caller} (hb : CallerOk P gl base) : ∀ {l : List KE}, KEAll P gl l → CallerOk P gl (orcL l base)
  | [], _ => hb
  | p :: l, hl => fun f xs H outs h => by
    have h1 : orcL (p :: l) base f xs H = @Bool.rec (fun _ => Option (List ROut)) (orcL l base f xs H) (if AV.beqs xs p.xs && heapBeq H p.H then some p.outs else orcL l base f xs H) (Nat.beq f p.f) := rfl
    rw [h1] at h
    cases hf : Nat.beq f p.f with
    | false => rw [hf] at h; exact orcL_ok hb hl.2 f xs H outs h
    | true =>
      rw [hf] at h
      simp only at h
      split at h
      · rename_i hx
        simp only [Bool.and_eq_true] at hx
        simp only [Option.some.injEq] at h
        have e1 := Nat.eq_of_beq_eq_true hf
        have e2 := AV.beqs_eq _ _ hx.1
        have e3 := heapBeq_eq _ _ hx.2
        subst e1 e2 e3 h
        exact hl.1
      · exact orcL_ok hb hl.2 f xs H outs h
/-- The outcomes of a closed call are one. -/
def isOne (o : Option (List ROut)) (r : AV) : Bool := match o with
  | some ((r', _) :: l) => r'.beq r && r.res && l.all fun p => p.1.beq r
  | _ => false
theorem det_of {P : Program} {gl : Glob} {l : List (Nat × List AV × AV)} {m : List KE} {t : TT} {base : Caller} {f : Nat} {xs : List AV} {r : AV} (hl : DtAll P gl l) (hm : KEAll P gl m) (ht : t.Ok P) (ho : CallerOk P gl base)
    (h : ((t.get f).isSome && xs.all AV.arg && isOne (callK gl (dtL l) t.get (orcD (dtL l) (orcL m base)) 100000 1000 f xs []) r) = true) : chkCallee P f = true ∧ xs.all AV.arg = true ∧ Det P gl f xs r := by
  simp only [Bool.and_eq_true] at h
  obtain ⟨⟨hf, ha⟩, h⟩ := h
  obtain ⟨⟨sc, rvs, k⟩, hf⟩ := Option.isSome_iff_exists.1 hf
  refine ⟨(chkFn_spec (TT.ok ht _ _ _ _ hf)).1, ha, ?_⟩
  unfold isOne at h
  split at h
  · rename_i r' H rest hc
    simp only [Bool.and_eq_true] at h
    refine Det.of_callT ((callK_sound (dtL_ok hl) (TT.ok ht) (orcD_ok (dtL_ok hl) (orcL_ok ho hm)) 1000 _ _ _ _ hc).mono fun r2 H2 hm => ?_) ha h.1.2
    rcases List.mem_cons.1 hm with hm | hm
    · simp only [Prod.mk.injEq] at hm
      rw [hm.1]
      exact AV.beq_eq _ _ h.1.1
    · exact AV.beq_eq _ _ (List.all_eq_true.1 h.2 _ hm)
  · cases h
def outsBeq : List ROut → List ROut → Bool
  | [], [] => true
  | x :: r, y :: r' => outBeq x y && outsBeq r r'
  | _, _ => false
theorem outsBeq_eq : ∀ {xs ys : List ROut}, outsBeq xs ys = true → xs = ys
  | [], [], _ => rfl
  | [], _ :: _, h => by simp [outsBeq] at h
  | _ :: _, [], h => by simp [outsBeq] at h
  | x :: xs, y :: ys, h => by
    simp only [outsBeq, Bool.and_eq_true] at h
    rw [outBeq_eq h.1, outsBeq_eq h.2]
/-- A call over a concrete heap by evaluation. -/
theorem call_of {P : Program} {gl : Glob} {l : List (Nat × List AV × AV)} {m : List KE} {t : TT} {base : Caller} {e : KE} (hl : DtAll P gl l) (hm : KEAll P gl m) (ht : t.Ok P) (ho : CallerOk P gl base)
    (h : (match callK gl (dtL l) t.get (orcD (dtL l) (orcL m base)) 100000 1000 e.f e.xs e.H with | some outs => outsBeq outs e.outs | none => false) = true) : CallT P gl e.f e.xs e.H fun r H' => (r, H') ∈ e.outs := by
  split at h
  · rename_i outs hc
    rw [← outsBeq_eq h]
    exact callK_sound (dtL_ok hl) (TT.ok ht) (orcD_ok (dtL_ok hl) (orcL_ok ho hm)) 1000 _ _ _ _ hc
  · cases h
end AM
/-! slices.AppendSeq to nil, over a map's keys, as known calls. Conditions: the map's values are bools; its keys are strings or structs of three scalars. -/
namespace AM
open Go Go.RowKit
section
variable {P : Program} {gl : Glob} {N : Nat} {g g' : Gh} {s s' : St} {a : Act} {w w' : World} {S E sz : Nat} {i : TypeInfo} {z : Value}

def scal : AV → Bool | .str _ | .int _ _ | .bool _ => true | _ => false
theorem scal_any {c : AV} {v : Value} (hc : scal c = true) (h : VR g c v) (g' : Gh) : VR g' c v := by
  cases c <;> simp [scal] at hc
  · have := h.bool_inv; subst this; exact .pure _ _ (.bool _)
  · have := h.int_inv; subst this; exact .pure _ _ (.int _ _)
  · obtain ⟨rfl, hl⟩ := h.str_inv; exact .pure _ _ (.str _ hl)
theorem scal_one {c : AV} {v : Value} (hc : scal c = true) (h : VR g c v) : v.oneCell' = true ∧ v.cells = #[v] ∧ NotOwn c := by
  cases c <;> simp [scal] at hc
  · have := h.bool_inv; subst this; exact ⟨rfl, rfl, notOwn_bool _⟩
  · have := h.int_inv; subst this; exact ⟨rfl, rfl, notOwn_int _ _⟩
  · obtain ⟨rfl, hl⟩ := h.str_inv; exact ⟨rfl, rfl, notOwn_str _⟩
theorem scals_any : ∀ {cs : List AV} {ws : List Value}, cs.all scal = true → VRs g cs ws → VRs g' cs ws
  | [], _, _, h => by cases h; exact .nil
  | c :: cs, _, hc, .cons _ _ v ws h1 h2 => by
    rw [List.all_cons, Bool.and_eq_true] at hc
    exact .cons _ _ _ _ (scal_any hc.1 h1 g') (scals_any hc.2 h2)
/-- A key whose cells are scalars: one string, or some scalars. -/
def keyOk (sz : Nat) : AV → Bool
  | .str _ => sz == 1
  | .agg cs => sz == 3 && cs.length == 3 && cs.all scal
  | _ => false
theorem keyOk_elem {sz : Nat} {k : AV} {v : Value} (hk : keyOk sz k = true) (h : VR g k v) : Elem sz v := by
  cases k <;> simp only [keyOk, Bool.false_eq_true, Bool.and_eq_true, beq_iff_eq] at hk
  · subst hk
    obtain ⟨rfl, hl⟩ := h.str_inv
    exact ⟨rfl, by simp [Value.cells, Value.oneCell'], fun _ => rfl, fun h => absurd rfl h⟩
  · obtain ⟨⟨rfl, h3⟩, hc⟩ := hk
    obtain ⟨ws, rfl, h1, h2⟩ := h.agg_inv
    have hl := h1.get.1
    refine ⟨by simp [Value.cells]; omega, by simpa [Value.cells] using h2, (fun h => by omega), fun _ => by simp [Value.cells]⟩
theorem keyOk_cells {sz : Nat} {k : AV} {v : Value} (hk : keyOk sz k = true) (h : VR g k v) : VRs g' k.cells v.cells.toList ∧ ∀ c ∈ k.cells, NotOwn c := by
  cases k <;> simp only [keyOk, Bool.false_eq_true, Bool.and_eq_true, beq_iff_eq] at hk
  · obtain ⟨rfl, hl⟩ := h.str_inv
    exact ⟨.cons _ _ _ _ (.pure _ _ (.str _ hl)) .nil, by simp [AV.cells]; exact notOwn_str _⟩
  · obtain ⟨⟨rfl, h3⟩, hc⟩ := hk
    obtain ⟨ws, rfl, h1, h2⟩ := h.agg_inv
    refine ⟨by simpa [Value.cells, AV.cells] using scals_any hc h1, fun c hc' => ?_⟩
    have := List.all_eq_true.1 hc c hc'
    cases c <;> simp [scal] at this <;> exact fun _ _ _ h => by simp at h
theorem keysOk_cells {sz : Nat} : ∀ {ks : List AV} {vs : List Value}, (∀ k ∈ ks, keyOk sz k = true) → VRs g ks vs → VRs g' (ks.map AV.cells).flatten (flat vs) ∧ ∀ c ∈ (ks.map AV.cells).flatten, NotOwn c
  | [], _, _, h => by cases h; exact ⟨.nil, by simp⟩
  | k :: ks, _, hk, .cons _ _ v vs h1 h2 => by
    obtain ⟨p1, p2⟩ := keyOk_cells (g' := g') (hk k (by simp)) h1
    obtain ⟨q1, q2⟩ := keysOk_cells (fun k hk' => hk k (by simp [hk'])) h2
    refine ⟨by simpa [flat] using p1.append q1, fun c hc => ?_⟩
    simp only [List.map_cons, List.flatten_cons, List.mem_append] at hc
    exact hc.elim (p2 c) (q2 c)

theorem append_callT (hT : SeqT P S E sz i z) (hok : okElem P E sz = true) {fa fk : Nat} {fn fn' : Func} {c c' : Code} {pre : List SOp} {ldk : SOp} (hfa : P.funcs[fa]? = some fn) (hba : fn.body = some c) (hresa : fn.results = #[.tmp 4]) (hCa : chkApC fn.ntmps S E sz c = true)
    (hfk : P.funcs[fk]? = some fn') (hbk : fn'.body = some c') (hresk : fn'.results = #[]) (hCk : chkKeysC P fn'.ntmps pre ldk c' = true) (hcal : chkCallee P fk = true) (hcala : chkCallee P fa = true)
    {H : List AObj} {id mid m : Nat} {es : List (AV × AV)} (h1 : H[id]? = some (.cells [.map mid])) (h2 : H[mid]? = some (.map m es)) (hv : ∀ e ∈ es, isB e.2 = true) (hk : ∀ e ∈ es, PreOk pre ldk e.1) (hko : ∀ e ∈ es, keyOk sz e.1 = true) (hM : es.length ≤ M) :
    CallT P gl fa [.nils sz, .fn fk [.ptr id 0]] H fun r H' => (es = [] ∧ r = .nils sz ∧ H' = H) ∨ (es ≠ [] ∧ ∃ ks : List AV, ks.Perm (es.map (·.1)) ∧ r = .sl H.length 0 ks.length sz ∧ H' = H ++ [.buf E (ks.map AV.cells).flatten, .dead]) := by
  refine ⟨hcala, fun g w vs h hvs _ => ?_⟩
  obtain ⟨b, p1, arr, ty, p2, p3, p4, p5, p6⟩ := h.heap id _ h1
  obtain ⟨u, q1, q2, q3, _⟩ := p6 0 _ rfl
  obtain ⟨bm, q4, rfl⟩ := q3.map_inv
  obtain ⟨bm', r1, hm⟩ := h.heap mid _ h2
  rw [q4] at r1; simp at r1; subst r1
  have hvs' : vs = [.slice none 0 0, .func (.func fk) #[] #[ptrTo b 0]] := by
    cases hvs with
    | cons _ _ v1 us h3 h4 => cases h4 with
      | cons _ _ v2 us' h5 h6 =>
        cases h6
        have := h3.nils_inv; subst this
        cases h5 with
        | pure _ _ h => cases h
        | fn _ _ ws h7 => cases h7 with
          | cons _ _ v3 us'' h8 h9 =>
            cases h9
            obtain ⟨b', t1, rfl⟩ := h8.ptr_inv
            rw [p1] at t1; simp at t1; subst t1
            rfl
  subst hvs'
  have hb : b < w.heap.size := (Array.getElem?_eq_some_iff.1 p2).1
  have hbm : bm < w.heap.size := by obtain ⟨arr', t1, _⟩ := hm; exact (Array.getElem?_eq_some_iff.1 t1).1
  have hcell : w.cell? ⟨b, 0, none⟩ = some (.map (some bm)) := by simp [World.cell?, p2, q1]
  refine (append_in hT hfa hba hresa hCa hfk hbk hresk hCk hcal hv hk (fun e he v hv => keyOk_elem (hko e he) hv) hm hbm hcell hb hM).mono ?_
  rintro e W ⟨v, xs, ks, rfl, k1, k2, k3, k4, k5, k6⟩
  have hos : (W.os, W.tape) = (w.os, w.tape) ∧ W.output = w.output := ⟨by rw [k4.os, k4.tape], k4.output⟩
  have hlen : xs.length = ks.length := k2.get.1
  have hklen : ks.length = es.length := by simpa using k1.length_eq
  by_cases hes : es = []
  · subst hes
    have hx0 : xs = [] := List.eq_nil_of_length_eq_zero (by rw [hlen, hklen]; rfl)
    have hvn := k6 hx0
    subst hvn
    have hle : GhLe g g := ⟨fun _ _ _ h => h, fun _ _ h => h⟩
    have hrel : Rel P gl 0 g (heapSt H) noAct W := h.step .none (PosFree.none _) hle (fun b hb => ⟨rfl, k4.block b (h.own b hb.1), fun _ => rfl⟩) (fun b off v hv => by
      have hc := h.gam b off v hv
      have hlt : b < w.heap.size := cell_lt hc
      unfold World.cell? at hc ⊢
      rw [k4.block b hlt]; exact hc) (fun b hb => Nat.lt_of_lt_of_le (h.own b hb) k4.size) h.rho
    exact ⟨_, .nils sz, H, g, rfl, .inl ⟨rfl, rfl, rfl⟩, ⟨hle, fun b hb => ⟨hb, k4.block b (h.own b (by rw [hb]; simp)), fun _ => rfl⟩, k4.size, hos.1, hos.2⟩, hrel, .pure _ _ (.nils sz), .of_ne (by simp)⟩
  · have hpos : 0 < xs.length := by have := List.length_pos_iff.2 hes; omega
    rcases k5.2 with ⟨_, h0⟩ | ⟨nb, cap, cur, rfl, t1, t2, t3, t4, t5, t6⟩
    · omega
    have hkk : ∀ k ∈ ks, keyOk sz k = true := fun k hk' => by
      obtain ⟨e, he, rfl⟩ := List.mem_map.1 (k1.mem_iff.1 hk')
      exact hko e he
    obtain ⟨s1, s2⟩ := keysOk_cells (g' := g) hkk k2
    have hone : ∀ u ∈ flat xs, u.oneCell' = true := fun u hu => by
      obtain ⟨l, hl, hul⟩ := List.mem_flatten.1 hu
      obtain ⟨x, hx, rfl⟩ := List.mem_map.1 hl
      exact (k3 x hx).2.1 u hul
    obtain ⟨g', u1, u2, u3, u4⟩ := h.rebuf (w' := W) (nb := nb) (e := E) (sz := sz) (us := flat xs) (c := cap) (cur := cur) (.inl (by
      cases hΩ : g.Ω nb with
      | none => rfl
      | _ => have := h.own nb (by rw [hΩ]; simp); omega)) (fun off => by
      cases hγ : g.γ nb off with
      | none => rfl
      | some v => have := cell_lt (h.gam _ _ _ hγ); omega) (fun k _ hk => k4.block k hk) k4.size hos t2 t5 (fun j u hj => by
      rw [← t6, List.getElem?_take] at hj
      split at hj
      · simpa using hj
      · cases hj) s1 hone s2 hok t4
    refine ⟨_, .sl H.length 0 ks.length sz, H ++ [.buf E (ks.map AV.cells).flatten, .dead], g', rfl, .inr ⟨hes, ks, k1, rfl, rfl⟩, u1, u2, ?_, .of_ne (by simp)⟩
    rw [hlen]
    exact .sl _ _ _ _ _ _ _ u3 u4 (by simp) (by omega)

/-! As an oracle. -/
def permsL : List AV → List (List AV)
  | [] => [[]]
  | x :: xs => (permsL xs).flatMap fun p => (List.range (p.length + 1)).map fun i => p.take i ++ [x] ++ p.drop i
theorem permsL_mem : ∀ {l ks : List AV}, ks.Perm l → ks ∈ permsL l
  | [], ks, h => by have := List.Perm.eq_nil h; subst this; simp [permsL]
  | x :: xs, ks, h => by
    have hx : x ∈ ks := h.mem_iff.2 (by simp)
    obtain ⟨l1, l2, rfl⟩ := List.append_of_mem hx
    have h' : (l1 ++ l2).Perm xs := by
      have h3 : (x :: (l1 ++ l2)).Perm (x :: xs) := (List.perm_middle.symm).trans h
      exact h3.cons_inv
    have ih := permsL_mem h'
    simp only [permsL, List.mem_flatMap, List.mem_map, List.mem_range]
    exact ⟨l1 ++ l2, ih, l1.length, by simp; omega, by simp⟩
def asOrc (fa fk sz E : Nat) (base : Caller) : Caller := fun f xs H =>
  bif Nat.beq f fa then (match xs with
    | [.nils sz', .fn f' [.ptr id 0]] => (match H[id]? with
      | some (.cells [.map mid]) => (match H[mid]? with
        | some (.map _ es) => if Nat.beq sz' sz && Nat.beq f' fk && es.all (fun e => isB e.2) && es.all (fun e => keyOk sz e.1) && decide (es.length ≤ 1000) then
            (match es with
             | [] => some [(.nils sz, H)]
             | es => some ((permsL (es.map (·.1))).map fun ks => (.sl H.length 0 ks.length sz, H ++ [.buf E (ks.map AV.cells).flatten, .dead]))) else none
        | _ => none)
      | _ => none)
    | _ => none)
  else base f xs H
theorem preOk_of {sz : Nat} {z : List AV} {k : AV} (hz : z.length = 3) (hk : keyOk sz k = true) : (sz = 1 ∧ PreOk [.mv 3 (.t 9)] (.mv 11 (.t 3)) k) ∨ (sz = 3 ∧ PreOk [.alloc 3 z, .st 3 (.t 3) (.t 9)] (.ld 11 (.t 3) 3 true) k) := by
  cases k <;> simp only [keyOk, Bool.false_eq_true, Bool.and_eq_true, beq_iff_eq] at hk
  · exact .inl ⟨hk, preOk_str _⟩
  · obtain ⟨⟨h1, h3⟩, hc⟩ := hk
    exact .inr ⟨h1, preOk_agg z _ hz h3 fun c hc' => by have := List.all_eq_true.1 hc c hc'; cases c <;> simp [scal] at this ⊢⟩
theorem asOrc_ok {base : Caller} (hbase : CallerOk P gl base) (hT : SeqT P S E sz i z) (hok : okElem P E sz = true) {fa fk : Nat} {fn fn' : Func} {c c' : Code} {pre : List SOp} {ldk : SOp} (hfa : P.funcs[fa]? = some fn) (hba : fn.body = some c) (hresa : fn.results = #[.tmp 4]) (hCa : chkApC fn.ntmps S E sz c = true)
    (hfk : P.funcs[fk]? = some fn') (hbk : fn'.body = some c') (hresk : fn'.results = #[]) (hCk : chkKeysC P fn'.ntmps pre ldk c' = true) (hcal : chkCallee P fk = true) (hcala : chkCallee P fa = true)
    (hpre : ∀ k, keyOk sz k = true → PreOk pre ldk k) : CallerOk P gl (asOrc fa fk sz E base) := by
  intro f xs H outs h
  unfold asOrc at h
  cases hf : Nat.beq f fa with
  | false => rw [hf] at h; exact hbase _ _ _ _ h
  | true =>
    rw [hf] at h
    have hf' := Nat.eq_of_beq_eq_true hf
    subst hf'
    simp only [cond_true] at h
    split at h
    · rename_i sz' f' id
      split at h
      · rename_i mid hid
        split at h
        · rename_i m es hmid
          split at h
          · rename_i hc
            simp only [Bool.and_eq_true, decide_eq_true_eq] at hc
            obtain ⟨⟨⟨⟨c1, c2⟩, c3⟩, c4⟩, c5⟩ := hc
            have c1 := Nat.eq_of_beq_eq_true c1
            have c2 := Nat.eq_of_beq_eq_true c2
            subst c1 c2
            have hko : ∀ e ∈ es, keyOk sz' e.1 = true := fun e he => List.all_eq_true.1 c4 e he
            have key := append_callT (gl := gl) hT hok hfa hba hresa hCa hfk hbk hresk hCk hcal hcala hid hmid (fun e he => List.all_eq_true.1 c3 e he) (fun e he => hpre _ (hko e he)) hko (Nat.le_trans c5 (by decide))
            refine key.mono fun r H' hr => ?_
            cases es with
            | nil =>
              simp only [Option.some.injEq] at h; subst h
              rcases hr with ⟨_, rfl, rfl⟩ | ⟨hne, _⟩
              · simp
              · exact absurd rfl hne
            | cons e0 es0 =>
              simp only [Option.some.injEq] at h; subst h
              rcases hr with ⟨he, _⟩ | ⟨_, ks, hp, rfl, rfl⟩
              · cases he
              · exact List.mem_map.2 ⟨ks, permsL_mem hp, rfl⟩
          · cases h
        · cases h
      · cases h
    · cases h

/-! All of it as one check. -/
def chkSeqT (P : Program) (S E sz : Nat) : Bool :=
  (match P.underlying S with | some (.slice e) => e == E | _ => false) && (match P.info? S with | some j => j.size == 1 | none => false) &&
  (match P.info? E with | some i => i.size == sz && decide (0 < sz) && decide (sz ≤ 2 ^ 24) && decide (i.bytes ≤ 128) && (match i.zero with | some z => z.cells.size == sz | none => false) | none => false) &&
  (sz == 1 || (match P.underlying E with | some (.struct _) => true | _ => false))
theorem seqT_of (h : chkSeqT P S E sz = true) : ∃ i z, SeqT P S E sz i z := by
  simp only [chkSeqT, Bool.and_eq_true] at h
  obtain ⟨⟨⟨h1, h2⟩, h3⟩, h4⟩ := h
  split at h1
  case h_2 => cases h1
  rename_i e hS
  split at h2
  case h_2 => cases h2
  rename_i j hj
  split at h3
  case h_2 => cases h3
  rename_i i hi
  simp only [Bool.and_eq_true, beq_iff_eq, decide_eq_true_eq] at h1 h2 h3
  subst h1
  obtain ⟨⟨⟨⟨q1, q2⟩, q3⟩, q4⟩, q5⟩ := h3
  split at q5
  case h_2 => cases q5
  rename_i z hz
  refine ⟨i, z, hS, ⟨j, hj, h2⟩, hi, q1, q2, q3, hz, by simpa using q5, q4, fun hne => ?_⟩
  simp only [Bool.or_eq_true, beq_iff_eq] at h4
  rcases h4 with h4 | h4
  · exact absurd h4 hne
  · split at h4
    · rename_i fs hfs; exact ⟨fs, hfs⟩
    · cases h4
def chkPair (P : Program) (fa fk S E sz : Nat) (pre : List SOp) (ldk : SOp) : Bool :=
  chkSeqT P S E sz && okElem P E sz && chkCallee P fk && chkCallee P fa &&
  (match P.funcs[fa]? with
    | some fn => (match fn.body with | some c => chkApC fn.ntmps S E sz c | none => false) && (match fn.results.toList with | [.tmp t] => t == 4 | _ => false)
    | none => false) &&
  (match P.funcs[fk]? with
    | some fn => (match fn.body with | some c => chkKeysC P fn.ntmps pre ldk c | none => false) && fn.results.toList.isEmpty
    | none => false)
theorem asOrc_of {base : Caller} (hbase : CallerOk P gl base) {fa fk : Nat} {pre : List SOp} {ldk : SOp} (h : chkPair P fa fk S E sz pre ldk = true) (hpre : ∀ k, keyOk sz k = true → PreOk pre ldk k) : CallerOk P gl (asOrc fa fk sz E base) := by
  simp only [chkPair, Bool.and_eq_true] at h
  obtain ⟨⟨⟨⟨⟨h1, h2⟩, h3⟩, h4⟩, h5⟩, h6⟩ := h
  obtain ⟨i, z, hT⟩ := seqT_of h1
  split at h5
  case h_2 => cases h5
  rename_i fn hfn
  split at h6
  case h_2 => cases h6
  rename_i fn' hfn'
  simp only [Bool.and_eq_true] at h5 h6
  obtain ⟨h5, h5'⟩ := h5
  obtain ⟨h6, h6'⟩ := h6
  split at h5
  case h_2 => cases h5
  rename_i c hc
  split at h6
  case h_2 => cases h6
  rename_i c' hc'
  split at h5'
  case h_2 => cases h5'
  rename_i t ht
  simp only [beq_iff_eq] at h5'
  subst h5'
  exact asOrc_ok hbase hT h2 hfn hc (by apply Array.ext'; simpa using ht) h5 hfn' hc' (by apply Array.ext'; simpa using h6') h6 h3 h4 hpre
theorem pre_str (k : AV) (h : keyOk 1 k = true) : PreOk [.mv 3 (.t 9)] (.mv 11 (.t 3)) k := by
  rcases preOk_of (z := [.nilp, .nilp, .nilp]) rfl h with ⟨_, h⟩ | ⟨h, _⟩
  · exact h
  · cases h
theorem pre_agg {z : List AV} (hz : z.length = 3) (k : AV) (h : keyOk 3 k = true) : PreOk [.alloc 3 z, .st 3 (.t 3) (.t 9)] (.ld 11 (.t 3) 3 true) k := by
  rcases preOk_of hz h with ⟨h, _⟩ | ⟨_, h⟩
  · cases h
  · exact h
end
end AM
