/- An abstract machine for the program of the seat, and what of the given program it does, part 2 of 16. Conditions: none. -/
import Derived.Test.YtbgaambfhmnhhaaGreatDoorAm0
import Derived.Laws.StructEq
import Derived.Laws.Concat
/-! The checker of operations, and the simulation of those that only compute. -/
namespace AM
open Go

def const1 : Value → AV → Bool
  | .int k n, .int k' n' => decide (k = k') && n == n'
  | .bool b, .bool b' => b == b'
  | .string s, .str l => s.data.toList == l && decide (l.length ≤ 16384)
  | .pointer none, .nilp => true
  | .slice none 0 0, .list none _ [] => true
  | .map none, .nilm => true
  | .nilFunc, .nilf => true
  | .slice none 0 0, .nils _ => true
  | .nilIface, .nili => true
  | _, _ => false
def const : Value → AV → Bool
  | .agg vs, .agg xs => vs.size == xs.length && (vs.toList.zip xs).all fun (v, x) => const1 v x
  | v, x => const1 v x
def chkOpd : Operand → Opd → Bool
  | .tmp t, .t n => t == n
  | .const v, .c x => const v x
  | .func f, .f n => f == n
  | .global n, .g m => n == m
  | _, _ => false
def dstIs (N : Nat) (o : Oper) (d : Nat) : Bool := o.dst == some d && decide (d < N)
def chkOpds (xs : List Operand) (ys : List Opd) : Bool := xs.length == ys.length && (xs.zip ys).all fun (x, y) => chkOpd x y
def okElem (P : Program) (e sz : Nat) : Bool :=
  match P.info? e with
  | some i => i.size == sz && decide (0 < sz) && (match i.zero with | some z => z.cells.size == sz | none => false) && decide (i.bytes ≤ 128)
  | none => false

theorem zip_all {α β : Type} {p : α × β → Bool} : ∀ {xs : List α} {ys : List β}, xs.length = ys.length → (xs.zip ys).all p = true → ∀ (i : Nat) x y, xs[i]? = some x → ys[i]? = some y → p (x, y) = true
  | [], _, _, _, i, x, y, hx, _ => by simp at hx
  | x :: xs, [], h, _, _, _, _, _, _ => by simp at h
  | x :: xs, y :: ys, h, ha, i, a, b, hx, hy => by
    simp only [List.zip_cons_cons, List.all_cons, Bool.and_eq_true] at ha
    cases i with
    | zero => simp at hx hy; subst hx hy; exact ha.1
    | succ i => exact zip_all (by simpa using h) ha.2 i a b (by simpa using hx) (by simpa using hy)

section
variable {γ : Gam}
theorem const1_sound {v : Value} {x : AV} (h : const1 v x = true) : PR γ x v ∧ v.oneCell' = true := by
  unfold const1 at h
  split at h
  · simp at h; obtain ⟨rfl, rfl⟩ := h; exact ⟨.int _ _, rfl⟩
  · simp at h; subst h; exact ⟨.bool _, rfl⟩
  · rename_i s l
    simp only [Bool.and_eq_true, beq_iff_eq, decide_eq_true_eq] at h
    obtain ⟨h1, h2⟩ := h
    refine ⟨?_, rfl⟩
    have : Value.string s = .string ⟨l.toArray⟩ := by rw [← h1]
    rw [this]
    exact .str l (by unfold M; omega)
  · exact ⟨.nilp, rfl⟩
  · exact ⟨.list0 _ _ _, rfl⟩
  · exact ⟨.nilm, rfl⟩
  · exact ⟨.nilf, rfl⟩
  · exact ⟨.nils _, rfl⟩
  · exact ⟨.nili, rfl⟩
  · cases h
theorem PRs_of {ws : List Value} : ∀ {cs : List AV}, ws.length = cs.length → (∀ (i : Nat) w c, ws[i]? = some w → cs[i]? = some c → PR γ c w ∧ w.oneCell' = true) → PRs γ cs ws := by
  induction ws with
  | nil => intro cs h _; cases cs with | nil => exact .nil | cons => simp at h
  | cons w ws ih =>
    intro cs h hh
    cases cs with
    | nil => simp at h
    | cons c cs =>
      have h0 := hh 0 w c (by simp) (by simp)
      exact .cons _ _ _ _ h0.2 h0.1 (ih (by simpa using h) fun i w c hw hc => hh (i + 1) w c (by simpa using hw) (by simpa using hc))
theorem const_sound {v : Value} {x : AV} (h : const v x = true) : PR γ x v := by
  unfold const at h
  split at h
  · rename_i vs xs
    simp only [Bool.and_eq_true, beq_iff_eq] at h
    obtain ⟨h1, h2⟩ := h
    have : vs = vs.toList.toArray := by simp
    rw [this]
    exact .agg _ _ (PRs_of (by simpa using h1) fun i w c hw hc => const1_sound (zip_all (by simpa using h1) h2 i w c hw hc))
  · exact (const1_sound h).1
end

section
variable {P : Program} {gl : Glob} {N : Nat} {g : Gh} {s s' : St} {a : Act} {w : World} {o : Oper}

theorem VRs.nil' : VRs g [] [] := .nil
/-- An operand's value. -/
theorem evO_sound (h : Rel P gl N g s a w) {y : Operand} {x : Opd} {u : AV} (hc : chkOpd y x = true) (he : evO gl s.env x = some u) : VR g u (a.eval y) := by
  unfold chkOpd at hc
  split at hc
  · rename_i t n
    simp at hc; subst hc
    simp only [evO] at he
    split at he
    · rename_i x hx
      simp at he; subst he
      obtain ⟨v, h1, h2, _⟩ := h.env _ _ hx
      simp [Act.eval, h1, h2]
    · cases he
  · simp only [evO] at he
    simp at he; subst he
    exact .pure _ _ (const_sound hc)
  · simp at hc; subst hc
    simp only [evO] at he
    simp at he; subst he
    exact .fn _ _ _ .nil
  · simp at hc; subst hc
    simp only [evO] at he
    exact .pure _ _ (h.glob _ _ he)
  · cases hc

theorem evOs_sound (h : Rel P gl N g s a w) : ∀ {ys : List Operand} {xs : List Opd} {us : List AV}, chkOpds ys xs = true → evOs gl s.env xs = some us → VRs g us (ys.map a.eval) := by
  intro ys
  induction ys with
  | nil =>
    intro xs us hc he
    cases xs with
    | nil => simp [evOs] at he; subst he; exact .nil
    | cons => simp [chkOpds] at hc
  | cons y ys ih =>
    intro xs us hc he
    cases xs with
    | nil => simp [chkOpds] at hc
    | cons x xs =>
      simp only [chkOpds, List.length_cons, List.zip_cons_cons, List.all_cons, Bool.and_eq_true, beq_iff_eq] at hc
      simp only [evOs] at he
      split at he
      · rename_i v vs h1 h2
        simp at he; subst he
        exact .cons _ _ _ _ (evO_sound h hc.2.1 h1) (ih (by simp [chkOpds, hc.2.2]; omega) h2)
      · cases he

/-- What is shown of one operation. -/
def Sim1 (P : Program) (gl : Glob) (N : Nat) (o : Oper) (g : Gh) (a : Act) (w : World) (s' : St) : Prop :=
  ∃ v w' g', ((execOp a.eval o).run P w = .ok (.value v) w' ∨ ((execOp a.eval o).run P w = .ok .skip w' ∧ v = undef)) ∧ GLe g w g' w' ∧ Rel P gl N g' s' (a.put o.dst v) w'

theorem Sim1.value (h : Rel P gl N g s a w) {d : Nat} {x : AV} {v : Value} (hd : dstIs N o d = true) (hp : s.put d x = some s') (hr : (execOp a.eval o).run P w = .ok (.value v) w)
    (hv : VR g x v) (ho : NotOwn x) : Sim1 P gl N o g a w s' := by
  simp only [dstIs, Bool.and_eq_true, beq_iff_eq, decide_eq_true_eq] at hd
  refine ⟨v, w, g, .inl hr, GLe.refl _ _, ?_⟩
  rw [hd.1]
  exact h.put hp hd.2 hv ho.ownR

theorem bind_some {α β : Type} {x : Option α} {f : α → Option β} {b : β} (h : x.bind f = some b) : ∃ a, x = some a ∧ f a = some b := by
  cases x with
  | none => cases h
  | some a => exact ⟨a, rfl, h⟩

def chkCopy (N : Nat) (o : Oper) (d : Nat) (x : Opd) : Bool := dstIs N o d && (match o.op with | .move y | .assign y => chkOpd y x | _ => false)

theorem run_copy {d : Nat} {x : Opd} (hc : chkCopy N o d x = true) : dstIs N o d = true ∧ ∃ y, chkOpd y x = true ∧ (execOp a.eval o).run P w = .ok (.value (a.eval y)) w := by
  simp only [chkCopy, Bool.and_eq_true] at hc
  obtain ⟨hd, hc⟩ := hc
  refine ⟨hd, ?_⟩
  split at hc
  · rename_i y hy; exact ⟨y, hc, by simp [execOp, hy]⟩
  · rename_i y hy; exact ⟨y, hc, by simp [execOp, hy]⟩
  · cases hc

theorem sim_mv {d : Nat} {x : Opd} (h : Rel P gl N g s a w) (hc : chkCopy N o d x = true) (he : ev gl s (.mv d x) = some s') : Sim1 P gl N o g a w s' := by
  obtain ⟨hd, y, hy, hr⟩ := run_copy (P := P) (a := a) (w := w) hc
  obtain ⟨u, h1, h2⟩ := bind_some he
  exact .value h hd h2 hr (evO_sound h hy h1).noOwn (NotOwn.noOwn u)

/-- An owner's block goes to another owner. -/
theorem Rel.pass (h : Rel P gl N g s a w) (x y : Owner) (hx : PosFree s x) (hox : x ≠ .outer) {b : Nat} (hb : g.Ω b = x) (hxn : x ≠ .none) :
    GLe g w { g with Ω := fun k => if k = b then y else g.Ω k } w ∧ Rel P gl N { g with Ω := fun k => if k = b then y else g.Ω k } s a w := by
  have hle : GhLe g { g with Ω := fun k => if k = b then y else g.Ω k } := ⟨fun _ _ _ h => h, fun _ _ h => h⟩
  refine ⟨⟨hle, fun k hk => ⟨?_, rfl, fun _ => rfl⟩, Nat.le_refl _, rfl, rfl⟩, ?_⟩
  · have : k ≠ b := by rintro rfl; rw [hb] at hk; exact hox hk
    simp [this, hk]
  · refine h.step x hx hle (fun k hk => ⟨?_, rfl, fun _ => rfl⟩) h.gam (fun k hk => ?_) h.rho
    · have : k ≠ b := by rintro rfl; exact hk.2 hb
      simp [this]
    · by_cases hkb : k = b
      · subst hkb; exact h.own _ (by rw [hb]; exact hxn)
      · simp [hkb] at hk; exact h.own _ hk

theorem OwnR.pass {o1 o2 : Owner} {x : AV} {v : Value} (h : OwnR P g w o1 x v) (b : Nat) (hb : v.ownBlock = some b) :
    OwnR P { g with Ω := fun k => if k = b then o2 else g.Ω k } w o2 x v := by
  intro e sz xs hx
  obtain ⟨i, z, vs, h1, h2, h3, h4, h5, h6, h6', h7, h8⟩ := h e sz xs hx
  refine ⟨i, z, vs, h1, h2, h3, h4, h5, h6, h6', h7, fun k hk => ?_⟩
  rw [hb] at hk; simp at hk; subst hk
  exact ⟨by simp, (h8 b hb).2⟩
theorem OwnR.free {o1 o2 : Owner} {x : AV} {v : Value} (h : OwnR P g w o1 x v) (hb : v.ownBlock = none) : OwnR P g w o2 x v := by
  intro e sz xs hx
  obtain ⟨i, z, vs, h1, h2, h3, h4, h5, h6, h6', h7, h8⟩ := h e sz xs hx
  exact ⟨i, z, vs, h1, h2, h3, h4, h5, h6, h6', h7, fun k hk => by rw [hb] at hk; cases hk⟩

/-- What a position owns goes to a temporary. -/
theorem Rel.passTo (h : Rel P gl N g s a w) {x : Owner} (hx : PosFree s x) (hox : x ≠ .outer) (hxn : x ≠ .none) {d : Nat} {y : AV} {v : Value} (hd : d < N) (hp : s.put d y = some s')
    (hv : VR g y v) (ho : OwnR P g w x y v) (hy : ∃ e sz xs, y = .list (some e) sz xs) : ∃ g', GLe g w g' w ∧ Rel P gl N g' s' (a.put (some d) v) w := by
  cases hb : v.ownBlock with
  | none => exact ⟨g, GLe.refl _ _, h.put hp hd hv (ho.free hb)⟩
  | some b =>
    obtain ⟨e, sz, xs, hy⟩ := hy
    obtain ⟨i, z, vs, h1, h2, h3, h4, h5, h6, h6', h7, h8⟩ := ho e sz xs hy
    obtain ⟨hle, h'⟩ := h.pass x (.var d) hx hox (h8 b hb).1 hxn
    exact ⟨_, hle, h'.put hp hd (hv.mono hle.toGhLe) (ho.pass b hb)⟩

theorem sim_tk {d x : Nat} (h : Rel P gl N g s a w) (hc : chkCopy N o d (.t x) = true) (he : ev gl s (.tk d x) = some s') : Sim1 P gl N o g a w s' := by
  obtain ⟨hd, y, hy, hr⟩ := run_copy (P := P) (a := a) (w := w) hc
  have hy' : y = .tmp x := by
    unfold chkOpd at hy; split at hy <;> simp_all
  subst hy'
  simp only [ev] at he
  have hd' := hd
  simp only [dstIs, Bool.and_eq_true, beq_iff_eq, decide_eq_true_eq] at hd'
  split at he
  · rename_i e sz xs hx
    split at he
    · cases he
    · rename_i hne
      obtain ⟨s1, h1, h2⟩ := bind_some he
      obtain ⟨h3, h4⟩ := h.strip hx
      rw [h3] at h1; simp at h1; subst h1
      obtain ⟨v, p1, p2, p3⟩ := h.env _ _ hx
      have hfree : PosFree { s with env := s.env.ins x (.v (.list none sz xs)) } (.var x) :=
        ⟨fun t z ht hz => by simp at ht; subst ht; simp only [Env.get_ins] at hz; simp at hz; subst hz; exact NotOwn.none _ _, by simp, by simp, by simp, by simp, by simp⟩
      obtain ⟨g', q1, q2⟩ := h4.passTo hfree (by simp) (by simp) hd'.2 h2 p2 p3 ⟨e, sz, xs, rfl⟩
      refine ⟨v, w, g', .inl ?_, q1, ?_⟩
      · rw [hr]; simp [Act.eval, p1]
      · rw [hd'.1]; exact q2
  · rename_i v hx hv
    have h1 : evO gl s.env (.t x) = some v := by simp [evO, hv]
    exact .value h hd he hr (evO_sound h hy h1).noOwn (NotOwn.noOwn v)
  · cases he

def chkNil (P : Program) (N : Nat) (o : Oper) (d e sz : Nat) : Bool := dstIs N o d && okElem P e sz && (match o.op with | .move (.const (.slice none 0 0)) | .assign (.const (.slice none 0 0)) => true | _ => false)
theorem okElem_own {e sz : Nat} (h : okElem P e sz = true) (g : Gh) (w : World) (o : Owner) : OwnR P g w o (.list (some e) sz []) (.slice none 0 0) := by
  intro e' sz' xs hx
  simp at hx; obtain ⟨rfl, rfl, rfl⟩ := hx
  unfold okElem at h
  split at h
  · rename_i i hi
    simp only [Bool.and_eq_true, beq_iff_eq, decide_eq_true_eq] at h
    obtain ⟨⟨⟨h1, h2⟩, h3⟩, h4⟩ := h
    split at h3
    · rename_i z hz
      simp at h3
      exact ⟨i, z, [], hi, h1, h2, hz, h3, h4, by simp, World.ownsRow_nil _ _ _ _, fun b hb => by simp [Value.ownBlock] at hb⟩
    · cases h3
  · cases h
theorem sim_nil {d e sz : Nat} (h : Rel P gl N g s a w) (hc : chkNil P N o d e sz = true) (he : ev gl s (.nil_ d e sz) = some s') : Sim1 P gl N o g a w s' := by
  simp only [chkNil, Bool.and_eq_true] at hc
  obtain ⟨⟨hd, hk⟩, hop⟩ := hc
  have hr : (execOp a.eval o).run P w = .ok (.value (.slice none 0 0)) w := by
    split at hop
    · rename_i hy; simp [execOp, hy, Act.eval]
    · rename_i hy; simp [execOp, hy, Act.eval]
    · cases hop
  simp only [dstIs, Bool.and_eq_true, beq_iff_eq, decide_eq_true_eq] at hd
  refine ⟨_, w, g, .inl hr, GLe.refl _ _, ?_⟩
  rw [hd.1]
  exact h.put he hd.2 (.own _ _ _ _ (.list0 _ _ _)) (okElem_own hk _ _ _)

def chkPick (N : Nat) (o : Oper) (d : Nat) (c x y : Opd) : Bool := dstIs N o d && (match o.op with | .pick c' x' y' => chkOpd c' c && chkOpd x' x && chkOpd y' y | _ => false)
theorem VR.bool_inv {b : Bool} {v : Value} (h : VR g (.bool b) v) : v = .bool b := by
  cases h with | pure _ _ h => cases h; rfl
theorem VR.int_inv {k : IntKind} {n : Int} {v : Value} (h : VR g (.int k n) v) : v = .int k n := by
  cases h with | pure _ _ h => cases h; rfl
theorem VR.str_inv {l : List UInt8} {v : Value} (h : VR g (.str l) v) : v = .string ⟨l.toArray⟩ ∧ l.length ≤ M := by
  cases h with | pure _ _ h => cases h; exact ⟨rfl, ‹_›⟩
theorem sim_pick {d : Nat} {c x y : Opd} (h : Rel P gl N g s a w) (hc : chkPick N o d c x y = true) (he : ev gl s (.pick d c x y) = some s') : Sim1 P gl N o g a w s' := by
  simp only [chkPick, Bool.and_eq_true] at hc
  obtain ⟨hd, hop⟩ := hc
  split at hop
  · rename_i c' x' y' ho
    simp only [Bool.and_eq_true] at hop
    obtain ⟨⟨h1, h2⟩, h3⟩ := hop
    simp only [ev] at he
    split at he
    · rename_i t ht
      have hb := (evO_sound h h1 ht).bool_inv
      split at he
      · rename_i htt; subst htt
        obtain ⟨u, p1, p2⟩ := bind_some he
        exact .value h hd p2 (by simp [execOp, ho, hb, asBool]) (evO_sound h h2 p1).noOwn (NotOwn.noOwn u)
      · rename_i htt; simp at htt; subst htt
        obtain ⟨u, p1, p2⟩ := bind_some he
        exact .value h hd p2 (by simp [execOp, ho, hb, asBool]) (evO_sound h h3 p1).noOwn (NotOwn.noOwn u)
    · cases he
  · cases hop

def chkNot (N : Nat) (o : Oper) (d : Nat) (x : Opd) : Bool := dstIs N o d && (match o.op with | .unOp .not _ x' => chkOpd x' x | _ => false)
theorem sim_not {d : Nat} {x : Opd} (h : Rel P gl N g s a w) (hc : chkNot N o d x = true) (he : ev gl s (.not_ d x) = some s') : Sim1 P gl N o g a w s' := by
  simp only [chkNot, Bool.and_eq_true] at hc
  obtain ⟨hd, hop⟩ := hc
  split at hop
  · rename_i x' ho
    simp only [ev] at he
    split at he
    · rename_i b hb
      have h1 := (evO_sound h hop hb).bool_inv
      exact .value h hd he (by simp [execOp, ho, h1, Op.unary]) (.pure _ _ (.bool _)) (fun _ _ _ h => by simp at h)
    · cases he
  · cases hop
def chkNeg (N : Nat) (o : Oper) (d : Nat) (x : Opd) : Bool := dstIs N o d && (match o.op with | .unOp .neg _ x' => chkOpd x' x | _ => false)
theorem sim_neg {d : Nat} {x : Opd} (h : Rel P gl N g s a w) (hc : chkNeg N o d x = true) (he : ev gl s (.neg d x) = some s') : Sim1 P gl N o g a w s' := by
  simp only [chkNeg, Bool.and_eq_true] at hc
  obtain ⟨hd, hop⟩ := hc
  split at hop
  · rename_i x' ho
    simp only [ev] at he
    split at he
    · rename_i k n hb
      have h1 := (evO_sound h hop hb).int_inv
      exact .value h hd he (by simp [execOp, ho, h1, Op.unary, Op.intArith]) (.pure _ _ (.int _ _)) (fun _ _ _ h => by simp at h)
    · cases he
  · cases hop
def chkConv (P : Program) (N : Nat) (o : Oper) (d : Nat) (k : IntKind) (x : Opd) : Bool := dstIs N o d &&
  (match o.op with | .convert sT dT x' => chkOpd x' x && (P.underlying sT).isSome && (match P.underlying dT with | some (.int k') => decide (k' = k) | _ => false) | _ => false)
theorem sim_conv {d : Nat} {k : IntKind} {x : Opd} (h : Rel P gl N g s a w) (hc : chkConv P N o d k x = true) (he : ev gl s (.conv d k x) = some s') : Sim1 P gl N o g a w s' := by
  simp only [chkConv, Bool.and_eq_true] at hc
  obtain ⟨hd, hop⟩ := hc
  split at hop
  · rename_i sT dT x' ho
    simp only [Bool.and_eq_true] at hop
    obtain ⟨⟨hx, hs⟩, hdt⟩ := hop
    split at hdt
    · rename_i k' hk
      simp at hdt; subst hdt
      simp only [ev] at he
      split at he
      · rename_i k n hb
        have h1 := (evO_sound h hx hb).int_inv
        obtain ⟨ds, hds⟩ := Option.isSome_iff_exists.1 hs
        exact .value h hd he (by simp [execOp, ho, h1, convert, run_underlying hds, run_underlying hk, Conv.intToInt]) (.pure _ _ (.int _ _)) (fun _ _ _ h => by simp at h)
      · cases he
    · cases hdt
  · cases hop
end
end AM
/-! The simulation of arithmetic, lengths, strings, addresses and loads. -/
namespace AM
open Go
section
variable {P : Program} {gl : Glob} {N : Nat} {g : Gh} {s s' : St} {a : Act} {w : World} {o : Oper}

theorem toList_mk (l : List UInt8) : (ByteArray.mk l.toArray).toList = l := by rw [ByteArray.toList_eq]

def kndT (P : Program) (t : TypeId) : Nat := match P.underlying t with | some (.int _) => 0 | some .string => 1 | some .bool => 2 | _ => 3
/-- A struct of scalars, field i at cell i. -/
def flatFields (P : Program) : Nat → List Nat → List Field → Bool
  | _, [], [] => true
  | i, k :: ks, f :: fs => f.name != "_" && f.offset == i && decide (kndT P f.type = k) && decide (k < 3) && flatFields P (i + 1) ks fs
  | _, _, _ => false
def flatStruct (P : Program) (t : TypeId) (ks : List Nat) : Bool :=
  match P.underlying t with
  | some (.struct fs) => !P.stoodInHeld t && !P.eqGuardType P.depth t && flatFields P 0 ks fs.toList
  | _ => false
def binMode (P : Program) (m : Nat) (t : TypeId) : Bool :=
  match m with
  | 0 => true
  | 2 => match P.underlying t with | some (.pointer _) => true | _ => false
  | 3 => match P.underlying t with | some .bool => true | _ => false
  | 4 => match P.underlying t with | some (.pointer e) => (P.info? e).isSome | _ => false
  | _ => false
def chkBin (P : Program) (N : Nat) (o : Oper) (d m : Nat) (op : BinOp) (x y : Opd) : Bool := dstIs N o d &&
  (match o.op with | .binOp op' t x' y' _ => decide (op' = op) && chkOpd x' x && chkOpd y' y && binMode P m t | _ => false)

theorem notOwn_bool (b : Bool) : NotOwn (.bool b) := fun _ _ _ h => by simp at h
theorem notOwn_int (k : IntKind) (n : Int) : NotOwn (.int k n) := fun _ _ _ h => by simp at h
theorem notOwn_str (l : List UInt8) : NotOwn (.str l) := fun _ _ _ h => by simp at h

theorem intBin_sound {op : BinOp} {k : IntKind} {x y : Int} {u : AV} (he : intBin op k x y = some u) (t : TypeId) (xo yo : Operand) :
    ∃ v, (do eqGuard op t xo yo (.int k x) (.int k y); binOp op t (.int k x) (.int k y) : Sem Value).run P w = .ok v w ∧ PR g.γ u v ∧ NotOwn u := by
  have hg : (eqGuard op t xo yo (.int k x) (.int k y)).run P w = .ok () w := by cases op <;> simp [eqGuard]
  unfold intBin at he
  cases op <;> simp at he
  case quo =>
    obtain ⟨h0, he⟩ := he
    subst he
    exact ⟨_, by simp [hg, binOp, Op.intDiv, h0], .int _ _, notOwn_int _ _⟩
  case rem =>
    obtain ⟨h0, he⟩ := he
    subst he
    exact ⟨_, by simp [hg, binOp, Op.intDiv, h0], .int _ _, notOwn_int _ _⟩
  all_goals
    subst he
    simp only [Sem.run_bind, hg, Result.andThen_ok, binOp, ne_eq, not_true_eq_false, if_false, Op.intArith, Op.intCmp, Sem.run_pure]
    first
      | exact ⟨_, rfl, .int _ _, notOwn_int _ _⟩
      | exact ⟨_, rfl, .bool _, notOwn_bool _⟩

theorem strBin_sound {op : BinOp} {x y : List UInt8} {u : AV} (he : strBin op x y = some u) (t : TypeId) (xo yo : Operand) :
    ∃ v, (do eqGuard op t xo yo (.string ⟨x.toArray⟩) (.string ⟨y.toArray⟩); binOp op t (.string ⟨x.toArray⟩) (.string ⟨y.toArray⟩) : Sem Value).run P w = .ok v w ∧ PR g.γ u v ∧ NotOwn u := by
  have hg : (eqGuard op t xo yo (.string ⟨x.toArray⟩) (.string ⟨y.toArray⟩)).run P w = .ok () w := by cases op <;> simp [eqGuard]
  unfold strBin at he
  cases op <;> simp at he
  case add =>
    obtain ⟨h0, he⟩ := he
    subst he
    refine ⟨.string ⟨(x ++ y).toArray⟩, ?_, .str _ (by simpa using h0), notOwn_str _⟩
    have h1 : (ByteArray.mk x.toArray).size + (ByteArray.mk y.toArray).size ≤ 9223372036854775807 := by
      have : (ByteArray.mk x.toArray).size = x.length := by simp [ByteArray.size]
      have : (ByteArray.mk y.toArray).size = y.length := by simp [ByteArray.size]
      unfold M at h0; omega
    have h2 : (ByteArray.mk x.toArray ++ ByteArray.mk y.toArray) = ByteArray.mk (x ++ y).toArray := by
      apply ByteArray.ext; simp
    simp only [Sem.run_bind, hg, Result.andThen_ok, binOp, run_string_add_sum w _ _ h1, h2]
  all_goals
    subst he
    simp only [Sem.run_bind, hg, Result.andThen_ok, binOp, Op.stringOp, Sem.run_pure, toList_mk, Bool.not_or]
    first
      | exact ⟨_, rfl, .bool _, notOwn_bool _⟩
      | exact ⟨_, rfl, by simpa using PR.bool _, notOwn_bool _⟩

theorem VR.agg_inv {cs : List AV} {v : Value} (h : VR g (.agg cs) v) : ∃ ws, v = .agg ws.toArray ∧ VRs g cs ws ∧ ∀ x ∈ ws, x.oneCell' = true := by
  cases h with
  | pure _ _ h =>
    cases h with
    | agg _ ws h =>
      refine ⟨ws, rfl, ?_⟩
      induction ws generalizing cs with
      | nil => cases h; exact ⟨.nil, by simp⟩
      | cons w ws ih =>
        cases h with
        | cons c cs _ _ h1 h2 h3 =>
          obtain ⟨p1, p2⟩ := ih h3
          exact ⟨.cons _ _ _ _ (.pure _ _ h2) p1, by simpa [h1] using p2⟩
  | agg _ ws h h1 => exact ⟨ws, rfl, h, h1⟩

theorem VRs.get {cs : List AV} {ws : List Value} (h : VRs g cs ws) : ws.length = cs.length ∧ ∀ (i : Nat) c, cs[i]? = some c → ∃ v, ws[i]? = some v ∧ VR g c v := by
  induction ws generalizing cs with
  | nil => cases h; simp
  | cons w ws ih =>
    cases h with
    | cons c cs _ _ h1 h2 =>
      obtain ⟨p1, p2⟩ := ih h2
      refine ⟨by simp [p1], fun i c' hc => ?_⟩
      cases i with
      | zero => simp at hc; subst hc; exact ⟨w, by simp, h1⟩
      | succ i => simpa using p2 i c' (by simpa using hc)

theorem VR.ptr_inv {id off : Nat} {v : Value} (h : VR g (.ptr id off) v) : ∃ b, g.ρ id = some b ∧ v = ptrTo b off := by
  cases h with
  | ptr _ _ b h => exact ⟨b, h, rfl⟩
  | pure _ _ h => cases h
theorem VR.nilp_inv {v : Value} (h : VR g .nilp v) : v = .pointer none := by
  cases h with | pure _ _ h => cases h; rfl

theorem run_equal_bool {t : TypeId} (hu : P.underlying t = some .bool) (x y : Bool) : (Op.equal t (.bool x) (.bool y)).run P w = .ok (x == y) w :=
  run_equalIn_bool' w 9999 t x y hu
theorem run_equalIn_nilptr (d : Nat) {t e : TypeId} (hu : P.underlying t = some (.pointer e)) (b : Option Addr) : (Op.equalIn (d + 1) t (.pointer none) (.pointer b)).run P w = .ok b.isNone w := by
  simp [Op.equalIn, run_underlying hu]
theorem run_equalIn_ptrnil (d : Nat) {t e : TypeId} (hu : P.underlying t = some (.pointer e)) (b : Addr) : (Op.equalIn (d + 1) t (.pointer (some b)) (.pointer none)).run P w = .ok false w := by
  simp [Op.equalIn, run_underlying hu]
theorem run_equal_nilptr {t e : TypeId} (hu : P.underlying t = some (.pointer e)) (b : Option Addr) : (Op.equal t (.pointer none) (.pointer b)).run P w = .ok b.isNone w :=
  run_equalIn_nilptr 9999 hu b
theorem run_equal_ptrnil {t e : TypeId} (hu : P.underlying t = some (.pointer e)) (b : Addr) : (Op.equal t (.pointer (some b)) (.pointer none)).run P w = .ok false w :=
  run_equalIn_ptrnil 9999 hu b

/-- An operation's two operands, compared. -/
theorem run_eql {t : TypeId} {x y : Value} {xo yo : Operand} {r : Bool} (hg : (eqGuard .eql t xo yo x y).run P w = .ok () w)
    (hb : binOp .eql t x y = Value.bool <$> Op.equal t x y) (he : (Op.equal t x y).run P w = .ok r w) :
    (do eqGuard .eql t xo yo x y; binOp .eql t x y : Sem Value).run P w = .ok (.bool r) w := by
  rw [Sem.run_bind, hg, Result.andThen_ok, hb, Sem.run_map, he]; rfl
theorem run_neq {t : TypeId} {x y : Value} {xo yo : Operand} {r : Bool} (hg : (eqGuard .neq t xo yo x y).run P w = .ok () w)
    (hb : binOp .neq t x y = (fun a => Value.bool !a) <$> Op.equal t x y) (he : (Op.equal t x y).run P w = .ok r w) :
    (do eqGuard .neq t xo yo x y; binOp .neq t x y : Sem Value).run P w = .ok (.bool (!r)) w := by
  rw [Sem.run_bind, hg, Result.andThen_ok, hb, Sem.run_map, he]; rfl

theorem binB_sound {op : BinOp} {b1 b2 : Bool} {u : AV} {t : TypeId} (hu : P.underlying t = some .bool) (xo yo : Operand)
    (he : (match op with | .eql => some (AV.bool (b1 == b2)) | .neq => some (AV.bool (!(b1 == b2))) | _ => none) = some u) :
    ∃ v, (do eqGuard op t xo yo (.bool b1) (.bool b2); binOp op t (.bool b1) (.bool b2) : Sem Value).run P w = .ok v w ∧ PR g.γ u v ∧ NotOwn u := by
  split at he
  · simp at he; subst he
    exact ⟨_, run_eql (by simp [eqGuard]) (by simp [binOp]) (run_equal_bool hu b1 b2), .bool _, notOwn_bool _⟩
  · simp at he; subst he
    exact ⟨_, run_neq (by simp [eqGuard]) (by simp [binOp]) (run_equal_bool hu b1 b2), by simpa using PR.bool _, notOwn_bool _⟩
  · cases he
theorem binP_sound {op : BinOp} {p1 p2 : Option Addr} {r : Bool} {u : AV} {t e : TypeId} (hu : P.underlying t = some (.pointer e)) (xo yo : Operand)
    (hp : (p1 = none ∧ r = p2.isNone) ∨ (p1.isSome ∧ p2 = none ∧ r = false))
    (he : (match op with | .eql => some (AV.bool r) | .neq => some (AV.bool (!r)) | _ => none) = some u) :
    ∃ v, (do eqGuard op t xo yo (.pointer p1) (.pointer p2); binOp op t (.pointer p1) (.pointer p2) : Sem Value).run P w = .ok v w ∧ PR g.γ u v ∧ NotOwn u := by
  have hr : (Op.equal t (.pointer p1) (.pointer p2)).run P w = .ok r w := by
    rcases hp with ⟨rfl, rfl⟩ | ⟨h1, rfl, rfl⟩
    · exact run_equal_nilptr hu p2
    · obtain ⟨b, rfl⟩ := Option.isSome_iff_exists.1 h1
      exact run_equal_ptrnil hu b
  split at he
  · simp at he; subst he
    exact ⟨_, run_eql (by simp [eqGuard]) (by simp [binOp]) hr, .bool _, notOwn_bool _⟩
  · simp at he; subst he
    exact ⟨_, run_neq (by simp [eqGuard]) (by simp [binOp]) hr, by simpa using PR.bool _, notOwn_bool _⟩
  · cases he

theorem run_equalIn_same (d : Nat) {t e : TypeId} (hu : P.underlying t = some (.pointer e)) (he : (P.info? e).isSome = true) (b : Addr) : (Op.equalIn (d + 1) t (.pointer (some b)) (.pointer (some b))).run P w = .ok true w := by
  obtain ⟨i, hi⟩ := Option.isSome_iff_exists.1 he
  have h1 : (sameAddr b b).run P w = .ok true w := by simp [sameAddr]
  by_cases h0 : i.size = 0
  · simp [Op.equalIn, run_underlying hu, Go.sizeOf, typeInfo, hi, h0]
  · simp [Op.equalIn, run_underlying hu, Go.sizeOf, typeInfo, hi, h0, h1]
theorem run_equal_same {t e : TypeId} (hu : P.underlying t = some (.pointer e)) (he : (P.info? e).isSome = true) (b : Addr) : (Op.equal t (.pointer (some b)) (.pointer (some b))).run P w = .ok true w :=
  run_equalIn_same 9999 hu he b
theorem binS_sound {op : BinOp} {p : Addr} {u : AV} {t e : TypeId} (hu : P.underlying t = some (.pointer e)) (hi : (P.info? e).isSome = true) (xo yo : Operand)
    (he : (match op with | .eql => some (AV.bool true) | .neq => some (AV.bool false) | _ => none) = some u) :
    ∃ v, (do eqGuard op t xo yo (.pointer (some p)) (.pointer (some p)); binOp op t (.pointer (some p)) (.pointer (some p)) : Sem Value).run P w = .ok v w ∧ PR g.γ u v ∧ NotOwn u := by
  split at he
  · simp at he; subst he
    exact ⟨_, run_eql (by simp [eqGuard]) (by simp [binOp]) (run_equal_same hu hi p), .bool _, notOwn_bool _⟩
  · simp at he; subst he
    exact ⟨_, run_neq (by simp [eqGuard]) (by simp [binOp]) (run_equal_same hu hi p), by simpa using PR.bool _, notOwn_bool _⟩
  · cases he

/-- A field of a struct of scalars. -/
theorem scalar_part {t : TypeId} (ht : kndT P t < 3) {cs : Array Value} {i : Nat} {c : Value} (hc : cs[i]? = some c) : (part t cs i).run P w = .ok c w := by
  unfold kndT at ht
  split at ht
  · rename_i k hu; simp [part, isAgg, run_underlying hu, hc]
  · rename_i hu; simp [part, isAgg, run_underlying hu, hc]
  · rename_i hu; simp [part, isAgg, run_underlying hu, hc]
  · omega
theorem eq1_sound {x y : AV} {r : Bool} {u v : Value} (h : eq1 x y = some r) (hx : VR g x u) (hy : VR g y v) {t : TypeId} (ht : knd x = kndT P t) (d : Nat) :
    (Op.equalIn (d + 1) t u v).run P w = .ok r w := by
  unfold eq1 at h
  unfold kndT at ht
  split at h
  · simp at h; subst h
    rw [hx.bool_inv, hy.bool_inv]
    simp only [knd] at ht
    split at ht <;> simp at ht
    rename_i hu
    exact run_equalIn_bool' w d t _ _ hu
  · split at h
    · rename_i k a k' b hk; subst hk
      simp at h; subst h
      rw [hx.int_inv, hy.int_inv]
      simp only [knd] at ht
      split at ht <;> simp at ht
      rename_i hu
      exact run_equalIn_int w d t _ _ _ _ hu
    · cases h
  · simp at h; subst h
    rw [hx.str_inv.1, hy.str_inv.1]
    simp only [knd] at ht
    split at ht <;> simp at ht
    rename_i hu
    rw [run_equalIn_string w d t _ _ hu, toList_mk, toList_mk]
  · cases h
theorem eqFields_sound (A B : Array Value) (d : Nat) : ∀ (fs : List Field) (ks : List Nat) (k : Nat) (xs ys : List AV) (us vs : List Value) (r : Bool), flatFields P k ks fs = true →
    eqsK ks xs ys = some r → VRs g xs us → VRs g ys vs → (∀ i, A[k + i]? = us[i]?) → (∀ i, B[k + i]? = vs[i]?) → (Op.eqFields (d + 1) A B fs).run P w = .ok r w := by
  intro fs
  induction fs with
  | nil =>
    intro ks k xs ys us vs r hf he _ _ _ _
    cases ks with
    | cons => simp [flatFields] at hf
    | nil =>
      cases xs <;> cases ys <;> simp [eqsK] at he
      subst he; simp [Op.eqFields]
  | cons f fs ih =>
    intro ks k xs ys us vs r hf he hx hy hA hB
    cases ks with
    | nil => simp [flatFields] at hf
    | cons kk ks =>
      simp only [flatFields, Bool.and_eq_true, bne_iff_ne, beq_iff_eq, decide_eq_true_eq] at hf
      obtain ⟨⟨⟨⟨h1, h2⟩, h3⟩, h4⟩, h5⟩ := hf
      cases xs with
      | nil => simp [eqsK] at he
      | cons x xs => cases ys with
        | nil => simp [eqsK] at he
        | cons y ys =>
          simp only [eqsK] at he
          split at he
          · rename_i hk
            split at he
            · rename_i r1 r2 e1 e2
              simp at he; subst he
              cases hx with
              | cons _ _ u us hu hus => cases hy with
                | cons _ _ v vs hv hvs =>
                  have hA0 := hA 0
                  have hB0 := hB 0
                  simp only [Nat.add_zero, List.getElem?_cons_zero] at hA0 hB0
                  have p1 : (part f.type A f.offset).run P w = .ok u w := by rw [h2]; exact scalar_part (by omega) hA0
                  have p2 : (part f.type B f.offset).run P w = .ok v w := by rw [h2]; exact scalar_part (by omega) hB0
                  have p3 := eq1_sound (P := P) (w := w) e1 hu hv (t := f.type) (by omega) d
                  have p4 := ih ks (k + 1) xs ys us vs r2 h5 e2 hus hvs (fun i => by have := hA (i + 1); simpa [Nat.add_assoc, Nat.add_comm 1 i] using this)
                    (fun i => by have := hB (i + 1); simpa [Nat.add_assoc, Nat.add_comm 1 i] using this)
                  simp only [Op.eqFields, h1, ne_eq, not_false_eq_true, if_true, Sem.run_bind, p1, Result.andThen_ok, p2, p3]
                  cases r1
                  · simp
                  · simp [p4]
            · cases he
          · cases he
def chkEqa (P : Program) (N : Nat) (o : Oper) (d : Nat) (ne : Bool) (ks : List Nat) (x y : Opd) : Bool := dstIs N o d &&
  (match o.op with | .binOp op t x' y' _ => decide (op = if ne = true then .neq else .eql) && chkOpd x' x && chkOpd y' y && flatStruct P t ks | _ => false)
theorem run_eqGuard_agg {op : BinOp} {t : TypeId} {x y : Operand} {A B : Array Value} (h : P.eqGuardType P.depth t = false) : (eqGuard op t x y (.agg A) (.agg B)).run P w = .ok () w := by
  cases op <;> simp [eqGuard, run_program, h]
theorem sim_eqa {d : Nat} {ne : Bool} {ks : List Nat} {x y : Opd} (h : Rel P gl N g s a w) (hc : chkEqa P N o d ne ks x y = true) (he : ev gl s (.eqa d ne ks x y) = some s') : Sim1 P gl N o g a w s' := by
  simp only [chkEqa, Bool.and_eq_true] at hc
  obtain ⟨hd, hop⟩ := hc
  split at hop
  · rename_i op' t x' y' _ ho
    simp only [Bool.and_eq_true, decide_eq_true_eq] at hop
    obtain ⟨⟨⟨hop', hx⟩, hy⟩, hflat⟩ := hop
    unfold flatStruct at hflat
    split at hflat
    · rename_i fs hu
      simp only [Bool.and_eq_true, Bool.not_eq_true'] at hflat
      obtain ⟨⟨hst, hgd⟩, hff⟩ := hflat
      simp only [ev] at he
      split at he
      · rename_i xs ys h1 h2
        obtain ⟨r, hb, hp⟩ := bind_some he
        obtain ⟨us, e1, q1, _⟩ := (evO_sound h hx h1).agg_inv
        obtain ⟨vs, e2, q2, _⟩ := (evO_sound h hy h2).agg_inv
        have hfo : P.fieldsOf t = fs := by simp [Program.fieldsOf, hu]
        have hr : (Op.equal t (.agg us.toArray) (.agg vs.toArray)).run P w = .ok r w := by
          show (Op.equalIn (9999 + 1) t _ _).run P w = _
          rw [run_equalIn_struct w 9999 t _ _ (by rw [hfo]; exact hu) hst, hfo]
          exact eqFields_sound _ _ 9998 fs.toList ks 0 xs ys us vs r hff hb q1 q2 (by simp) (by simp)
        refine .value h hd hp (v := .bool (if ne = true then !r else r)) ?_ (.pure _ _ (.bool _)) (notOwn_bool _)
        cases ne with
        | false =>
          simp at hop'; subst hop'
          simp only [execOp, ho, e1, e2]
          rw [Sem.run_bind, run_eql (run_eqGuard_agg hgd) (by simp [binOp]) hr]; rfl
        | true =>
          simp at hop'; subst hop'
          simp only [execOp, ho, e1, e2]
          rw [Sem.run_bind, run_neq (run_eqGuard_agg hgd) (by simp [binOp]) hr]; rfl
      · cases he
    · cases hflat
  · cases hop

theorem sim_bin {d m : Nat} {op : BinOp} {x y : Opd} (h : Rel P gl N g s a w) (hc : chkBin P N o d m op x y = true) (he : ev gl s (.bin d m op x y) = some s') : Sim1 P gl N o g a w s' := by
  simp only [chkBin, Bool.and_eq_true] at hc
  obtain ⟨hd, hop⟩ := hc
  split at hop
  · rename_i op' t x' y' _ ho
    simp only [Bool.and_eq_true, decide_eq_true_eq] at hop
    obtain ⟨⟨⟨rfl, hx⟩, hy⟩, hmode⟩ := hop
    simp only [ev] at he
    split at he
    · rename_i u1 u2 h1 h2
      obtain ⟨u, hb, hp⟩ := bind_some he
      have v1 := evO_sound h hx h1
      have v2 := evO_sound h hy h2
      suffices ∃ v, (do eqGuard op' t x' y' (a.eval x') (a.eval y'); binOp op' t (a.eval x') (a.eval y') : Sem Value).run P w = .ok v w ∧ PR g.γ u v ∧ NotOwn u by
        obtain ⟨v, q1, q2, q3⟩ := this
        exact .value h hd hp (by simp only [execOp, ho]; rw [Sem.run_bind, q1]; rfl) (.pure _ _ q2) q3
      have hptr : m = 2 → ∃ e, P.underlying t = some (.pointer e) := by
        rintro rfl
        simp only [binMode] at hmode
        split at hmode
        · rename_i e hu; exact ⟨e, hu⟩
        · cases hmode
      have hptr4 : m = 4 → ∃ e, P.underlying t = some (.pointer e) ∧ (P.info? e).isSome = true := by
        rintro rfl
        simp only [binMode] at hmode
        split at hmode
        · rename_i e hu; exact ⟨e, hu, hmode⟩
        · cases hmode
      unfold binV at hb
      split at hb
      · split at hb
        · rename_i hk
          obtain ⟨_, rfl⟩ := hk
          rw [v1.int_inv, v2.int_inv]
          exact intBin_sound hb t x' y'
        · cases hb
      · split at hb
        · rw [v1.str_inv.1, v2.str_inv.1]
          exact strBin_sound hb t x' y'
        · cases hb
      · rename_i b1 b2
        split at hb
        · rename_i hm3; subst hm3
          simp only [binMode] at hmode
          split at hmode
          · rename_i hu
            rw [v1.bool_inv, v2.bool_inv]
            exact binB_sound hu x' y' hb
          · cases hmode
        · cases hb
      · split at hb
        · rename_i hm2
          obtain ⟨e, hu⟩ := hptr hm2
          rw [v1.nilp_inv, v2.nilp_inv]
          exact binP_sound (r := true) hu x' y' (.inl ⟨rfl, rfl⟩) (by cases op' <;> simp_all)
        · cases hb
      · split at hb
        · rename_i hm2
          obtain ⟨e, hu⟩ := hptr hm2
          obtain ⟨b, _, hv⟩ := v2.ptr_inv
          rw [v1.nilp_inv, hv]
          exact binP_sound (r := false) hu x' y' (.inl ⟨rfl, rfl⟩) (by cases op' <;> simp_all)
        · cases hb
      · split at hb
        · rename_i hm4
          obtain ⟨hm4, rfl, rfl⟩ := hm4
          obtain ⟨e, hu, hi⟩ := hptr4 hm4
          obtain ⟨b, hb1, hv⟩ := v1.ptr_inv
          obtain ⟨b', hb2, hv'⟩ := v2.ptr_inv
          rw [hb1] at hb2; simp at hb2; subst hb2
          rw [hv, hv']
          exact binS_sound hu hi x' y' hb
        · cases hb
      · split at hb
        · rename_i hm2
          obtain ⟨e, hu⟩ := hptr hm2
          obtain ⟨b, _, hv⟩ := v1.ptr_inv
          rw [v2.nilp_inv, hv]
          exact binP_sound (r := false) hu x' y' (.inr ⟨rfl, rfl, rfl⟩) (by cases op' <;> simp_all)
        · cases hb
      · cases hb
    · cases he
  · cases hop
end
end AM
