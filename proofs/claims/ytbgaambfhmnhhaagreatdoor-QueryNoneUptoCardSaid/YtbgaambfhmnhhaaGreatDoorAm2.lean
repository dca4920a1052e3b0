/- An abstract machine for the program of the seat, and what of the given program it does, part 3 of 16. Conditions: none. -/
import Derived.Test.YtbgaambfhmnhhaaGreatDoorAm1
import Derived.Laws.Cells
/-! The simulation of lengths, addresses, loads, strings and slices. -/
namespace AM
open Go
section
variable {P : Program} {gl : Glob} {N : Nat} {g : Gh} {s s' : St} {a : Act} {w : World} {o : Oper}

theorem addr_add (b off j : Nat) : (⟨b, off, none⟩ : Addr).add j = ⟨b, off + j, none⟩ := by unfold Addr.add; split <;> simp_all

theorem VR.tup_inv {cs : List AV} {v : Value} (h : VR g (.tup cs) v) : ∃ ws, v = .tuple ws.toArray ∧ VRs g cs ws := by
  cases h with
  | pure _ _ h => cases h
  | tup _ ws h => exact ⟨ws, rfl, h⟩
theorem VR.list_inv {own : Option Nat} {sz : Nat} {xs : List AV} {v : Value} (h : VR g (.list own sz xs) v) :
    ∃ base cap, v = .slice base xs.length cap ∧ (xs.length ≤ M ∧ xs.length ≤ cap) ∧ (xs = [] ∨ ∃ b off, base = some ⟨b, off, none⟩ ∧ PRr g.γ b off sz xs) := by
  have key : PR g.γ (.list none sz xs) v → ∃ base cap, v = .slice base xs.length cap ∧ (xs.length ≤ M ∧ xs.length ≤ cap) ∧ (xs = [] ∨ ∃ b off, base = some ⟨b, off, none⟩ ∧ PRr g.γ b off sz xs) := by
    intro h
    cases h with
    | list0 _ base cap => exact ⟨base, cap, rfl, by simp, .inl rfl⟩
    | list b off cap _ _ h1 h1' h2 => exact ⟨_, cap, rfl, ⟨h1, h1'⟩, .inr ⟨b, off, rfl, h2⟩⟩
  cases h with
  | pure _ _ h =>
    cases own with
    | none => exact key h
    | some e => cases h
  | own _ _ _ _ h => exact key h
theorem VR.cptr_inv {cs : List AV} {v : Value} (h : VR g (.cptr cs) v) : ∃ b off, v = ptrTo b off ∧ PRc g.γ b off cs := by
  cases h with
  | pure _ _ h => cases h with | cptr b off _ h => exact ⟨b, off, rfl, h⟩
theorem PRr.get {γ : Gam} {b sz : Nat} : ∀ {xs : List AV} {off : Nat}, PRr γ b off sz xs → ∀ (i : Nat) x, xs[i]? = some x → x.cells.length = sz ∧ PRc γ b (off + i * sz) x.cells
  | [], _, _, i, x, hx => by simp at hx
  | y :: ys, off, .cons _ _ _ _ _ h1 h2 h3, i, x, hx => by
    cases i with
    | zero => simp at hx; subst hx; simpa using ⟨h1, h2⟩
    | succ i =>
      obtain ⟨p1, p2⟩ := PRr.get h3 i x (by simpa using hx)
      refine ⟨p1, ?_⟩
      have : off + (i + 1) * sz = off + sz + i * sz := by rw [Nat.add_mul]; omega
      rw [this]; exact p2
theorem PRr.drop {γ : Gam} {b sz : Nat} : ∀ (n : Nat) {xs : List AV} {off : Nat}, PRr γ b off sz xs → PRr γ b (off + n * sz) sz (xs.drop n)
  | 0, _, _, h => by simpa using h
  | n + 1, [], _, _ => by simpa using PRr.nil _ _ _
  | n + 1, y :: ys, off, .cons _ _ _ _ _ h1 h2 h3 => by
    have := PRr.drop n h3
    have e : off + (n + 1) * sz = off + sz + n * sz := by rw [Nat.add_mul]; omega
    rw [e]; simpa using this
theorem PRr.take {γ : Gam} {b sz : Nat} : ∀ (n : Nat) {xs : List AV} {off : Nat}, PRr γ b off sz xs → PRr γ b off sz (xs.take n)
  | 0, _, _, _ => by simpa using PRr.nil _ _ _
  | n + 1, [], _, _ => by simpa using PRr.nil _ _ _
  | n + 1, y :: ys, off, .cons _ _ _ _ _ h1 h2 h3 => by simpa using PRr.cons _ _ _ _ _ h1 h2 (PRr.take n h3)
theorem PRc.drop {γ : Gam} {b : Nat} : ∀ (n : Nat) {xs : List AV} {off : Nat}, PRc γ b off xs → PRc γ b (off + n) (xs.drop n)
  | 0, _, _, h => by simpa using h
  | n + 1, [], _, _ => by simpa using PRc.nil _ _
  | n + 1, y :: ys, off, .cons _ _ _ _ v h1 h2 h3 h4 => by
    have := PRc.drop n h4
    have e : off + (n + 1) = off + 1 + n := by omega
    rw [e]; simpa using this
theorem PRc.take {γ : Gam} {b : Nat} : ∀ (n : Nat) {xs : List AV} {off : Nat}, PRc γ b off xs → PRc γ b off (xs.take n)
  | 0, _, _, _ => by simpa using PRc.nil _ _
  | n + 1, [], _, _ => by simpa using PRc.nil _ _
  | n + 1, y :: ys, off, .cons _ _ _ _ v h1 h2 h3 h4 => by simpa using PRc.cons _ _ _ _ v h1 h2 h3 (PRc.take n h4)

def chkExt (N : Nat) (o : Oper) (d x i : Nat) : Bool := dstIs N o d && (match o.op with | .extract (.tmp t) j => t == x && j == i | _ => false)
theorem sim_ext {d x i : Nat} (h : Rel P gl N g s a w) (hc : chkExt N o d x i = true) (he : ev gl s (.ext d x i) = some s') : Sim1 P gl N o g a w s' := by
  simp only [chkExt, Bool.and_eq_true] at hc
  obtain ⟨hd, hop⟩ := hc
  split at hop
  · rename_i t j ho
    simp at hop; obtain ⟨rfl, rfl⟩ := hop
    simp only [ev] at he
    split at he
    · rename_i vs hv
      obtain ⟨u, h1, h2⟩ := bind_some he
      obtain ⟨v, p1, p2, _⟩ := h.env _ _ hv
      obtain ⟨ws, rfl, q⟩ := p2.tup_inv
      obtain ⟨x, q1, q2⟩ := q.get.2 _ _ h1
      exact .value h hd h2 (v := x) (by simp [execOp, ho, Act.eval, p1, Instr.extract, q1]) q2.noOwn (NotOwn.noOwn u)
    · cases he
  · cases hop

/-- A call of a builtin. -/
def bcall (op : Op) : Option (Builtin × List Operand × List TypeId) :=
  match op with
  | .call c => match c.callee with
    | .builtin b => some (b, c.args.toList, c.argTypes.toList)
    | _ => none
  | _ => none
theorem bcall_run {op : Op} {b : Builtin} {xs : List Operand} {ts : List TypeId} (h : bcall op = some (b, xs, ts)) (ho : o.op = op) (ev : Operand → Value) :
    ∃ consts, execOp ev o = builtin b ts.toArray o.type consts (xs.map ev).toArray := by
  unfold bcall at h
  split at h
  · rename_i c
    split at h
    · rename_i b' hc
      simp at h; obtain ⟨rfl, rfl, rfl⟩ := h
      have e : (List.map ev c.args.toList).toArray = c.args.map ev := by apply Array.ext'; simp
      simp only [execOp, ho, resolve, hc, pure_bind, invoke, e, Array.toArray_toList]
      exact ⟨_, rfl⟩
    · cases h
  · cases h
def lenMode (P : Program) (m : Nat) (t : TypeId) : Bool := match P.underlying t with | some .string => m == 0 | some (.slice _) => m == 1 | some (.map _ _) => m == 2 | _ => false
theorem lenMode_str {t : TypeId} (h : lenMode P 0 t = true) : P.underlying t = some .string := by unfold lenMode at h; split at h <;> simp_all
theorem lenMode_slc {t : TypeId} (h : lenMode P 1 t = true) : ∃ e, P.underlying t = some (.slice e) := by unfold lenMode at h; split at h <;> simp_all
theorem lenMode_map {t : TypeId} (h : lenMode P 2 t = true) : ∃ k e, P.underlying t = some (.map k e) := by unfold lenMode at h; split at h <;> simp_all
theorem VR.nilm_inv {v : Value} (h : VR g .nilm v) : v = .map none := by
  cases h with
  | pure _ _ h => cases h; rfl
theorem VR.nils_inv {sz : Nat} {v : Value} (h : VR g (.nils sz) v) : v = .slice none 0 0 := by
  cases h with
  | pure _ _ h => cases h; rfl
theorem VR.map_inv {id : Nat} {v : Value} (h : VR g (.map id) v) : ∃ b, g.ρ id = some b ∧ v = .map (some b) := by
  cases h with
  | pure _ _ h => cases h
  | map _ b hb => exact ⟨b, hb, rfl⟩
theorem VR.sl_inv {id off n sz : Nat} {v : Value} (h : VR g (.sl id off n sz) v) : ∃ b k cap, g.ρ id = some b ∧ g.ρ (id + 1) = some k ∧ off + cap * sz = k ∧ n ≤ cap ∧ v = .slice (some ⟨b, off, none⟩) n cap := by
  cases h with
  | pure _ _ h => cases h
  | sl _ _ _ _ b k cap h1 h2 h3 h4 => exact ⟨b, k, cap, h1, h2, h3, h4, rfl⟩
theorem run_getObj {b : Nat} {o : Obj} (h : w.heap[b]? = some o) (ho : ∀ c e f, o ≠ .cells c e f) : (getObj b).run P w = .ok o w := by
  show (Sem.getObj b Sem.pure).run P w = .ok o w
  simp only [Sem.run, h]
theorem run_len_str {t ty : TypeId} (hu : P.underlying t = some .string) (l : List UInt8) : (Builtin.len_ #[t] ty #[.string ⟨l.toArray⟩]).run P w = .ok (.int .i64 l.length) w := by
  have : (ByteArray.mk l.toArray).size = l.length := by simp [ByteArray.size]
  simp only [Builtin.len_, List.getElem?_toArray, List.getElem?_cons_zero, Sem.run_bind, run_underlying hu, Result.andThen_ok, Sem.run_pure, goInt, this]
theorem run_len_slc {t ty e : TypeId} (hu : P.underlying t = some (.slice e)) (base : Option Addr) (n cap : Nat) : (Builtin.len_ #[t] ty #[.slice base n cap]).run P w = .ok (.int .i64 n) w := by
  simp only [Builtin.len_, List.getElem?_toArray, List.getElem?_cons_zero, Sem.run_bind, run_underlying hu, Result.andThen_ok, Sem.run_pure, goInt]
def chkLen (P : Program) (N : Nat) (o : Oper) (d m : Nat) (x : Opd) : Bool := dstIs N o d &&
  (match bcall o.op with | some (.len, [x'], [t]) => chkOpd x' x && lenMode P m t | _ => false)
theorem sim_len {d m : Nat} {x : Opd} (h : Rel P gl N g s a w) (hc : chkLen P N o d m x = true) (he : ev gl s (.len d m x) = some s') : Sim1 P gl N o g a w s' := by
  simp only [chkLen, Bool.and_eq_true] at hc
  obtain ⟨hd, hop⟩ := hc
  split at hop
  · rename_i x' t ho
    obtain ⟨cst, hrun⟩ := bcall_run (o := o) ho rfl a.eval
    simp only [Bool.and_eq_true] at hop
    obtain ⟨hx, hu⟩ := hop
    simp only [ev] at he
    split at he
    · rename_i own sz xs hv
      split at he
      · rename_i hm1; subst hm1
        obtain ⟨e, hu⟩ := lenMode_slc hu
        obtain ⟨base, cap, hv', _⟩ := (evO_sound h hx hv).list_inv
        refine .value h hd he (v := .int .i64 xs.length) ?_ (.pure _ _ (.int _ _)) (notOwn_int _ _)
        rw [hrun]; simp only [builtin, List.map_cons, List.map_nil, hv', Sem.run_bind, run_len_slc hu, Result.andThen_ok, Sem.run_pure]
      · cases he
    · rename_i l hv
      split at he
      · rename_i hm1; subst hm1
        have hu := lenMode_str hu
        have hv' := (evO_sound h hx hv).str_inv.1
        refine .value h hd he (v := .int .i64 l.length) ?_ (.pure _ _ (.int _ _)) (notOwn_int _ _)
        rw [hrun]; simp only [builtin, List.map_cons, List.map_nil, hv', Sem.run_bind, run_len_str hu, Result.andThen_ok, Sem.run_pure]
      · cases he
    · split at he
      · rename_i hv hm1; subst hm1
        obtain ⟨_, e, hu⟩ := lenMode_map hu
        have hv' := (evO_sound h hx hv).nilm_inv
        refine .value h hd he (v := .int .i64 0) ?_ (.pure _ _ (.int _ _)) (notOwn_int _ _)
        rw [hrun]; simp only [builtin, List.map_cons, List.map_nil, hv', Builtin.len_, List.getElem?_toArray, List.getElem?_cons_zero, Sem.run_bind, run_underlying hu, Result.andThen_ok, Sem.run_pure, goInt]
      · cases he
    · split at he
      · rename_i hv hm1; subst hm1
        obtain ⟨e, hu⟩ := lenMode_slc hu
        have hv' := (evO_sound h hx hv).nils_inv
        refine .value h hd he (v := .int .i64 0) ?_ (.pure _ _ (.int _ _)) (notOwn_int _ _)
        rw [hrun]; simp only [builtin, List.map_cons, List.map_nil, hv', Sem.run_bind, run_len_slc hu, Result.andThen_ok, Sem.run_pure]; rfl
      · cases he
    · split at he
      · rename_i hv hm1; subst hm1
        obtain ⟨e, hu⟩ := lenMode_slc hu
        obtain ⟨b, k, cap, _, _, _, _, hv'⟩ := (evO_sound h hx hv).sl_inv
        refine .value h hd he (v := .int .i64 _) ?_ (.pure _ _ (.int _ _)) (notOwn_int _ _)
        rw [hrun]; simp only [builtin, List.map_cons, List.map_nil, hv', Sem.run_bind, run_len_slc hu, Result.andThen_ok, Sem.run_pure]
      · cases he
    · split at he
      · rename_i hv hm1; subst hm1
        split at he
        · rename_i n es hid
          obtain ⟨_, e, hu⟩ := lenMode_map hu
          obtain ⟨b, hb, hv'⟩ := (evO_sound h hx hv).map_inv
          obtain ⟨b', hb', arr, p1, p2, ⟨es', r1, r2, r3⟩, p5⟩ := h.heap _ _ hid
          rw [hb] at hb'; simp at hb'; subst hb'
          have hsz : arr.size = es.length := by rw [← r1.length_eq, r2]; simp
          refine .value h hd he (v := .int .i64 es.length) ?_ (.pure _ _ (.int _ _)) (notOwn_int _ _)
          rw [hrun]; simp [builtin, hv', Builtin.len_, run_underlying hu, goInt, run_getObj p1 (by simp), hsz]
        · cases he
      · cases he
    · cases he
  · cases hop

/-- What an address is. -/
def AdrR (P : Program) (g : Gh) (s : St) (a : Act) (w : World) (v : Value) : Adr → Prop
  | .bx t off => ∃ b cs, s.env.get t = some (.b cs) ∧ a.tmps[t]? = some (ptrTo b 0) ∧ v = ptrTo b off ∧ BlkR P g w b (.bx t) (.bc t) cs
  | .hp id off => ∃ b, g.ρ id = some b ∧ v = ptrTo b off
  | .im cs => ∃ b off, v = ptrTo b off ∧ PRc g.γ b off cs
theorem adr_sound (h : Rel P gl N g s a w) {y : Operand} {x : Opd} {p : Adr} (hc : chkOpd y x = true) (he : adr gl s.env x = some p) : AdrR P g s a w (a.eval y) p := by
  unfold adr at he
  split at he
  · rename_i n
    have hy : y = .tmp n := by unfold chkOpd at hc; split at hc <;> simp_all
    subst hy
    split at he
    · rename_i cs hn
      simp at he; subst he
      obtain ⟨b, p1, p2⟩ := h.env _ _ hn
      exact ⟨b, cs, hn, p1, by simp [Act.eval, p1], p2⟩
    · rename_i t off hn
      simp at he; subst he
      obtain ⟨⟨cs, hu⟩, b, p1, p2⟩ := h.env _ _ hn
      obtain ⟨b', q1, q2⟩ := h.env _ _ hu
      rw [p2] at q1; simp [ptrTo] at q1; subst q1
      exact ⟨b, cs, hu, p2, by simp [Act.eval, p1], q2⟩
    · rename_i id off hn
      simp at he; subst he
      obtain ⟨v, p1, p2, _⟩ := h.env _ _ hn
      obtain ⟨b, q1, q2⟩ := p2.ptr_inv
      exact ⟨b, q1, by simp [Act.eval, p1, q2]⟩
    · rename_i cs hn
      simp at he; subst he
      obtain ⟨v, p1, p2, _⟩ := h.env _ _ hn
      obtain ⟨b, off, q1, q2⟩ := p2.cptr_inv
      exact ⟨b, off, by simp [Act.eval, p1, q1], q2⟩
    · cases he
  · rename_i n
    have hy : y = .global n := by unfold chkOpd at hc; split at hc <;> simp_all
    subst hy
    split at he
    · rename_i cs hn
      simp at he; subst he
      have := h.glob _ _ hn
      cases this with
      | cptr b off _ hh => exact ⟨n, 0, rfl, hh⟩
    · cases he
  · cases he

/-- Cells that are read. -/
def CellsR (g : Gh) (w : World) (b off : Nat) (cs : List AV) : Prop :=
  ∃ ws : List Value, ws.length = cs.length ∧ VRs g cs ws ∧ (∀ v ∈ ws, v.oneCell' = true) ∧ ∀ j v, ws[j]? = some v → w.cell? ⟨b, off + j, none⟩ = some v
theorem VRs.of_get {ws : List Value} : ∀ {cs : List AV}, ws.length = cs.length → (∀ (i : Nat) c v, cs[i]? = some c → ws[i]? = some v → VR g c v) → VRs g cs ws := by
  induction ws with
  | nil => intro cs h _; cases cs with | nil => exact .nil | cons => simp at h
  | cons w ws ih =>
    intro cs h hh
    cases cs with
    | nil => simp at h
    | cons c cs => exact .cons _ _ _ _ (hh 0 c w (by simp) (by simp)) (ih (by simpa using h) fun i c v hc hv => hh (i + 1) c v (by simpa using hc) (by simpa using hv))
theorem BlkR.cells {b : Nat} {ow : Owner} {oc : Nat → Owner} {cs : List AV} (h : BlkR P g w b ow oc cs) {off n : Nat} : CellsR g w b off ((cs.drop off).take n) := by
  obtain ⟨arr, ty, h1, h2, h3, h4, h5⟩ := h
  generalize hL : arr.toList.take cs.length = L
  have hl : L.length = cs.length := by rw [← hL]; simp; omega
  have hget : ∀ (i : Nat) v, L[i]? = some v → arr[i]? = some v := fun i v hv => by
    rw [← hL, List.getElem?_take] at hv
    split at hv
    · simpa using hv
    · cases hv
  refine ⟨(L.drop off).take n, by simp [hl], .of_get (by simp [hl]) fun i c v hc hv => ?_, fun v hv => ?_, fun j v hv => ?_⟩
  · rw [List.getElem?_take] at hc hv
    split at hc
    · rw [List.getElem?_drop] at hc
      rename_i hi; rw [if_pos hi, List.getElem?_drop] at hv
      obtain ⟨v', p1, _, p3, _⟩ := h5 _ _ hc
      have hv := hget _ _ hv; rw [p1] at hv; simp at hv; subst hv; exact p3
    · cases hc
  · obtain ⟨i, hi, hvi⟩ := List.getElem_of_mem hv
    have hvi' : ((L.drop off).take n)[i]? = some v := by rw [List.getElem?_eq_getElem hi, hvi]
    rw [List.getElem?_take] at hvi'
    split at hvi'
    · rw [List.getElem?_drop] at hvi'
      have hlt : off + i < cs.length := by have := (List.getElem?_eq_some_iff.1 hvi').1; omega
      obtain ⟨v', p1, p2, _⟩ := h5 (off + i) cs[off + i] (by simp [hlt])
      have hvi' := hget _ _ hvi'; rw [p1] at hvi'; simp at hvi'; subst hvi'; exact p2
    · cases hvi'
  · rw [List.getElem?_take] at hv
    split at hv
    · rw [List.getElem?_drop] at hv
      rw [cell_of_row w b _ arr ty (0, 0) h1]; exact hget _ _ hv
    · cases hv
theorem PRc.cellsR {g : Gh} {w : World} (hgam : ∀ b off v, g.γ b off = some v → w.cell? ⟨b, off, none⟩ = some v) : ∀ {cs : List AV} {b off : Nat}, PRc g.γ b off cs → CellsR g w b off cs
  | [], _, _, _ => ⟨[], rfl, .nil, by simp, by simp⟩
  | c :: cs, b, off, .cons _ _ _ _ v h1 h2 h3 h4 => by
    obtain ⟨ws, q1, q2, q3, q4⟩ := PRc.cellsR hgam h4
    refine ⟨v :: ws, by simp [q1], .cons _ _ _ _ (.pure _ _ h3) q2, by simpa [h2] using q3, fun j u hu => ?_⟩
    cases j with
    | zero => simp at hu; subst hu; exact hgam _ _ _ h1
    | succ j => have := q4 j u (by simpa using hu); rw [← this]; congr 2; omega
theorem rdAt_sound (h : Rel P gl N g s a w) {v : Value} {p : Adr} (hp : AdrR P g s a w v p) {n : Nat} {cs : List AV} (hr : rdAt s n p = some cs) : ∃ b off, v = ptrTo b off ∧ CellsR g w b off cs ∧ cs.length = n := by
  cases p with
  | bx t off =>
    obtain ⟨b, cs', p1, p2, p3, p4⟩ := hp
    simp only [rdAt, p1] at hr
    split at hr
    · rename_i hn
      simp at hr; subst hr
      exact ⟨b, off, p3, p4.cells, by simp; omega⟩
    · cases hr
  | hp id off =>
    obtain ⟨b, p1, p2⟩ := hp
    simp only [rdAt] at hr
    split at hr
    · rename_i cs' hid
      obtain ⟨b', q1, q2⟩ := h.heap _ _ hid
      rw [p1] at q1; simp at q1; subst q1
      split at hr
      · rename_i hn
        simp at hr; subst hr
        exact ⟨b, off, p2, q2.cells, by simp; omega⟩
      · cases hr
    · rename_i e cs' hid
      obtain ⟨b', k, q1, _, q2, _⟩ := h.heap _ _ hid
      rw [p1] at q1; simp at q1; subst q1
      split at hr
      · rename_i hn
        simp at hr; subst hr
        exact ⟨b, off, p2, q2.cells, by simp; omega⟩
      · cases hr
    · cases hr
  | im cs' =>
    obtain ⟨b, off, p1, p2⟩ := hp
    simp only [rdAt] at hr
    split at hr
    · rename_i hn
      simp at hr; subst hr
      exact ⟨b, off, p1, (p2.take n).cellsR h.gam, by simp; omega⟩
    · cases hr

theorem VRs.noOwn {cs : List AV} {ws : List Value} (h : VRs g cs ws) : VRs g (cs.map AV.noOwn) ws := by
  induction ws generalizing cs with
  | nil => cases h; exact .nil
  | cons w ws ih => cases h with | cons c cs _ _ h1 h2 => exact .cons _ _ _ _ h1.noOwn (ih h2)

def chkLd (P : Program) (N : Nat) (o : Oper) (d : Nat) (x : Opd) (n : Nat) (ag : Bool) : Bool := dstIs N o d &&
  (match o.op with | .load t x' => chkOpd x' x && (match P.info? t with | some i => i.size == n | none => false) &&
    (match P.underlying t with | some (.struct _) | some (.array _ _) => ag | some _ => !ag && n == 1 | none => false) | _ => false)
theorem run_load_cells {t : TypeId} {i : TypeInfo} {dsc : TypeDesc} {b off : Nat} {ws : List Value} (hi : P.info? t = some i) (hu : P.underlying t = some dsc) (hl : ws.length = i.size)
    (hw : ∀ j v, ws[j]? = some v → w.cell? ⟨b, off + j, none⟩ = some v) (hag : (∃ fs, dsc = .struct fs) ∨ ∃ n e, dsc = .array n e) : (Instr.loadAt t (ptrTo b off)).run P w = .ok (.agg ws.toArray) w := by
  have h1 := run_loadCells_list (P := P) (w := w) ⟨b, off, none⟩ ws (fun j v hv => by rw [addr_add]; exact hw j v hv)
  have h2 : (isAgg t).run P w = .ok true w := by
    rcases hag with ⟨fs, rfl⟩ | ⟨n, e, rfl⟩ <;> simp [isAgg, run_underlying hu]
  rw [hl] at h1
  simp [Instr.loadAt, Instr.sureAddr, ptrTo, loadVar, h2, Go.sizeOf, typeInfo, hi, h1]
theorem run_load_one {t : TypeId} {dsc : TypeDesc} {b off : Nat} {v : Value} (hu : P.underlying t = some dsc) (hag : (∀ fs, dsc ≠ .struct fs) ∧ ∀ n e, dsc ≠ .array n e)
    (hw : w.cell? ⟨b, off, none⟩ = some v) : (Instr.loadAt t (ptrTo b off)).run P w = .ok v w := by
  have h2 : (isAgg t).run P w = .ok false w := by
    cases dsc <;> first | (simp [isAgg, run_underlying hu]; done) | exact absurd rfl (hag.1 _) | exact absurd rfl (hag.2 _ _)
  simp [Instr.loadAt, Instr.sureAddr, ptrTo, loadVar, h2, hw]
theorem sim_ld {d : Nat} {x : Opd} {n : Nat} {ag : Bool} (h : Rel P gl N g s a w) (hc : chkLd P N o d x n ag = true) (he : ev gl s (.ld d x n ag) = some s') : Sim1 P gl N o g a w s' := by
  simp only [chkLd, Bool.and_eq_true] at hc
  obtain ⟨hd, hop⟩ := hc
  split at hop
  · rename_i t x' ho
    simp only [Bool.and_eq_true] at hop
    obtain ⟨⟨hx, hsz⟩, hk⟩ := hop
    split at hsz
    · rename_i i hi
      simp at hsz
      simp only [ev] at he
      obtain ⟨p, h1, he⟩ := bind_some he
      obtain ⟨cs, h2, he⟩ := bind_some he
      obtain ⟨b, off, hv, ⟨ws, q1, q2, q3, q4⟩, q5⟩ := rdAt_sound h (adr_sound h hx h1) h2
      have hag1 : ag = true → ((execOp a.eval o).run P w = .ok (.value (.agg ws.toArray)) w) := by
        intro hag
        simp only [execOp, ho, Sem.run_bind, hv]
        split at hk
        · rename_i fs hu; rw [run_load_cells hi hu (by omega) q4 (.inl ⟨fs, rfl⟩)]; rfl
        · rename_i m e hu; rw [run_load_cells hi hu (by omega) q4 (.inr ⟨m, e, rfl⟩)]; rfl
        · simp [hag] at hk
        · cases hk
      split at he
      · rename_i hag
        exact .value h hd he (hag1 hag) (.agg _ _ q2.noOwn q3) (fun _ _ _ h => by simp at h)
      · rename_i hag
        split at he
        · rename_i c
          cases q2 with
          | cons _ _ u us hu hus =>
            cases hus
            have hcell := q4 0 u (by simp)
            refine .value h hd he (v := u) ?_ hu.noOwn (NotOwn.noOwn c)
            simp only [execOp, ho, Sem.run_bind, hv]
            split at hk
            · simp [hag] at hk
            · simp [hag] at hk
            · rename_i dsc hd1 hd2 hu'
              rw [run_load_one hu' ⟨fun fs e => hd1 fs e, fun n e e' => hd2 n e e'⟩ (by simpa using hcell)]; rfl
            · cases hk
        · cases he
    · cases hsz
  · cases hop
end
end AM
/-! The simulation of element addresses, fields, strings, slices, literals. -/
namespace AM
open Go
section
variable {P : Program} {gl : Glob} {N : Nat} {g : Gh} {s s' : St} {a : Act} {w : World} {o : Oper}

theorem notOwn_cptr (cs : List AV) : NotOwn (.cptr cs) := fun _ _ _ h => by simp at h
theorem notOwn_ptr (id off : Nat) : NotOwn (.ptr id off) := fun _ _ _ h => by simp at h

def fieldOk (P : Program) (t f off : Nat) : Bool :=
  match P.underlying t with
  | some (.struct fs) =>
    match fs[f]? with
    | some fd => fd.offset == off && (match P.info? fd.type with | some i => i.size != 0 | none => false)
    | none => false
  | _ => false
def chkFa (P : Program) (N : Nat) (o : Oper) (d : Nat) (x : Opd) (off : Nat) : Bool := dstIs N o d &&
  (match o.op with | .fieldAddr t x' f => chkOpd x' x && fieldOk P t f off | _ => false)
theorem run_fieldAt {t : TypeId} {fs : Array Field} {f : Nat} {fd : Field} {i : TypeInfo} (hu : P.underlying t = some (.struct fs)) (hf : fs[f]? = some fd) (hi : P.info? fd.type = some i)
    (hn : i.size ≠ 0) (b off : Nat) : (Instr.fieldAt t (ptrTo b off) f).run P w = .ok (ptrTo b (off + fd.offset)) w := by
  simp only [Instr.fieldAt, Sem.run_bind, run_underlying hu, Result.andThen_ok, hf, Instr.sureAddr, ptrTo, fieldPlace, Go.sizeOf, typeInfo, run_program, hi, Sem.run_pure, Sem.run_ite, hn, if_false, addr_add]
theorem Sim1.addr (h : Rel P gl N g s a w) {d u off b : Nat} {cs : List AV} (hd : dstIs N o d = true) (hok : okPut s.env d = true) (hu : s.env.get u = some (.b cs)) (hb : a.tmps[u]? = some (ptrTo b 0))
    (hr : (execOp a.eval o).run P w = .ok (.value (ptrTo b off)) w) : Sim1 P gl N o g a w { s with env := s.env.ins d (.a u off) } := by
  simp only [dstIs, Bool.and_eq_true, beq_iff_eq, decide_eq_true_eq] at hd
  refine ⟨_, w, g, .inl hr, GLe.refl _ _, ?_⟩
  rw [hd.1]
  exact h.putA hok hd.2 hu hb
theorem sim_fa {d : Nat} {x : Opd} {off : Nat} (h : Rel P gl N g s a w) (hc : chkFa P N o d x off = true) (he : ev gl s (.fa d x off) = some s') : Sim1 P gl N o g a w s' := by
  simp only [chkFa, Bool.and_eq_true] at hc
  obtain ⟨hd, hop⟩ := hc
  split at hop
  · rename_i t x' f ho
    simp only [Bool.and_eq_true] at hop
    obtain ⟨hx, hk⟩ := hop
    unfold fieldOk at hk
    split at hk
    · rename_i fs hu
      split at hk
      · rename_i fd hfd
        simp only [Bool.and_eq_true, beq_iff_eq] at hk
        obtain ⟨rfl, hk⟩ := hk
        split at hk
        · rename_i i hi
          simp at hk
          have hrun : ∀ b o', a.eval x' = ptrTo b o' → (execOp a.eval o).run P w = .ok (.value (ptrTo b (o' + fd.offset))) w := by
            intro b o' e
            simp only [execOp, ho, Sem.run_bind, e, run_fieldAt hu hfd hi hk, Result.andThen_ok, Sem.run_pure]
          simp only [ev] at he
          split at he
          · rename_i t' o' hp
            obtain ⟨b, cs, q1, q2, q3, q4⟩ := adr_sound h hx hp
            split at he
            · rename_i hok
              simp at he; subst he
              exact .addr h hd hok q1 q2 (hrun _ _ q3)
            · cases he
          · rename_i id o' hp
            obtain ⟨b, q1, q2⟩ := adr_sound h hx hp
            exact .value h hd he (hrun _ _ q2) (.ptr _ _ _ q1) (notOwn_ptr _ _)
          · rename_i cs hp
            obtain ⟨b, o', q1, q2⟩ := adr_sound h hx hp
            split at he
            · exact .value h hd he (hrun _ _ q1) (.pure _ _ (.cptr _ _ _ (q2.drop _))) (notOwn_cptr _)
            · cases he
          · cases he
        · cases hk
      · cases hk
    · cases hk
  · cases hop

def sliceOk (P : Program) (t sz : Nat) : Bool :=
  match P.underlying t with
  | some (.slice e) => (match P.info? e with | some f => f.size == sz | none => false)
  | _ => false
def chkIa (P : Program) (N : Nat) (o : Oper) (d sz : Nat) (x i : Opd) : Bool := dstIs N o d &&
  (match o.op with | .indexAddr t x' i' => chkOpd x' x && chkOpd i' i && sliceOk P t sz | _ => false)
theorem run_indexAt {t e : TypeId} {f : TypeInfo} (hu : P.underlying t = some (.slice e)) (hi : P.info? e = some f) (b off len cap : Nat) (k : IntKind) {n : Int} (h0 : 0 ≤ n) (h1 : n < len) :
    (Instr.indexAt t (.slice (some ⟨b, off, none⟩) len cap) (.int k n)).run P w = .ok (ptrTo b (off + n.toNat * f.size)) w := by
  simp [Instr.indexAt, asIntOf, run_underlying hu, h0, h1, Go.sizeOf, typeInfo, hi, addr_add, ptrTo]
theorem sim_ia {d sz : Nat} {x i : Opd} (h : Rel P gl N g s a w) (hc : chkIa P N o d sz x i = true) (he : ev gl s (.ia d sz x i) = some s') : Sim1 P gl N o g a w s' := by
  simp only [chkIa, Bool.and_eq_true] at hc
  obtain ⟨hd, hop⟩ := hc
  split at hop
  · rename_i t x' i' ho
    simp only [Bool.and_eq_true] at hop
    obtain ⟨⟨hx, hi⟩, hk⟩ := hop
    unfold sliceOk at hk
    split at hk
    · rename_i e hu
      split at hk
      · rename_i f hf
        simp at hk
        simp only [ev] at he
        split at he
        · rename_i own sz' xs k n h1 h2
          split at he
          · rename_i hb
            obtain ⟨rfl, hb0, hb1⟩ := hb
            obtain ⟨u, q1, q2⟩ := bind_some he
            obtain ⟨base, cap, p1, p2, p3⟩ := (evO_sound h hx h1).list_inv
            have p4 := (evO_sound h hi h2).int_inv
            rcases p3 with rfl | ⟨b, off, rfl, p5⟩
            · simp at q1
            · obtain ⟨r1, r2⟩ := p5.get _ _ q1
              refine .value h hd q2 (v := ptrTo b (off + n.toNat * sz')) ?_ (.pure _ _ (.cptr _ _ _ r2)) (notOwn_cptr _)
              simp only [execOp, ho, Sem.run_bind, p1, p4, run_indexAt hu hf b off _ cap k hb0 hb1, Result.andThen_ok, Sem.run_pure, hk]
          · cases he
        · rename_i id off m sz' k n h1 h2
          split at he
          · rename_i hb
            obtain ⟨rfl, hb0, hb1⟩ := hb
            obtain ⟨b, kk, cap, p1, _, _, _, p3⟩ := (evO_sound h hx h1).sl_inv
            have p4 := (evO_sound h hi h2).int_inv
            refine .value h hd he (v := ptrTo b (off + n.toNat * sz')) ?_ (.ptr _ _ _ p1) (fun _ _ _ h => by simp at h)
            simp only [execOp, ho, Sem.run_bind, p3, p4, run_indexAt hu hf b off _ cap k hb0 hb1, Result.andThen_ok, Sem.run_pure, hk]
          · cases he
        · cases he
      · cases hk
    · cases hk
  · cases hop

def chkIdx (P : Program) (N : Nat) (o : Oper) (d : Nat) (x i : Opd) : Bool := dstIs N o d &&
  (match o.op with | .index t x' i' => chkOpd x' x && chkOpd i' i && (match P.underlying t with | some .string => true | _ => false) | _ => false)
theorem mk_getElem (l : List UInt8) (n : Nat) : (ByteArray.mk l.toArray)[n]? = l[n]? := by
  by_cases h : n < l.length
  · have h' : n < (ByteArray.mk l.toArray).size := by simpa [ByteArray.size] using h
    rw [getElem?_pos _ n h', List.getElem?_eq_getElem h]
    rfl
  · have h' : ¬ n < (ByteArray.mk l.toArray).size := by simpa [ByteArray.size] using h
    rw [getElem?_neg _ n h', List.getElem?_eq_none (by omega)]
theorem sim_idx {d : Nat} {x i : Opd} (h : Rel P gl N g s a w) (hc : chkIdx P N o d x i = true) (he : ev gl s (.idx d x i) = some s') : Sim1 P gl N o g a w s' := by
  simp only [chkIdx, Bool.and_eq_true] at hc
  obtain ⟨hd, hop⟩ := hc
  split at hop
  · rename_i t x' i' ho
    simp only [Bool.and_eq_true] at hop
    obtain ⟨⟨hx, hi⟩, hk⟩ := hop
    split at hk
    · rename_i hu
      simp only [ev] at he
      split at he
      · rename_i l k n h1 h2
        split at he
        · rename_i hb0
          obtain ⟨u, q1, q2⟩ := bind_some he
          have p1 := (evO_sound h hx h1).str_inv.1
          have p2 := (evO_sound h hi h2).int_inv
          refine .value h hd q2 (v := .int .u8 u.toNat) ?_ (.pure _ _ (.int _ _)) (notOwn_int _ _)
          simp only [execOp, ho, Sem.run_bind, p1, p2, Instr.index, asIntOf, Sem.run_pure, Result.andThen_ok, run_underlying hu, hb0, if_true, mk_getElem, q1]
        · cases he
      · cases he
    · cases hk
  · cases hop

def chkBnd : Option Operand → Option Opd → Bool
  | none, none => true
  | some x, some y => chkOpd x y
  | _, _ => false
theorem run_bound {x : Value} {k : IntKind} {n : Int} {y : Nat} {code : BoundsCode} (hx : x = .int k n) (h0 : 0 ≤ n) (h1 : n ≤ y) : (Instr.sliceBound x y code).run P w = .ok n.toNat w := by
  subst hx; simp [Instr.sliceBound, asIntOf, h0, h1]
theorem bnd_sound (h : Rel P gl N g s a w) {x : Option Operand} {y : Option Opd} {dflt : Nat} {n : Int} (hc : chkBnd x y = true) (he : bnd gl s.env dflt y = some n) :
    (x = none ∧ n = dflt) ∨ ∃ z k, x = some z ∧ a.eval z = .int k n := by
  unfold chkBnd at hc
  split at hc
  · simp only [bnd] at he; simp at he; exact .inl ⟨rfl, he.symm⟩
  · rename_i x y
    simp only [bnd] at he
    split at he
    · rename_i k m hm
      simp at he; subst he
      exact .inr ⟨x, k, rfl, (evO_sound h hc hm).int_inv⟩
    · cases he
  · cases hc
theorem run_bounds (h : Rel P gl N g s a w) {lo hi : Option Operand} {lo' hi' : Option Opd} {len cap : Nat} {l r : Int} (isS : Bool) (hlo : chkBnd lo lo' = true) (hhi : chkBnd hi hi' = true)
    (el : bnd gl s.env 0 lo' = some l) (eh : bnd gl s.env len hi' = some r) (h0 : 0 ≤ l) (h1 : l ≤ r) (h2 : r ≤ len) (hcap : len ≤ cap) :
    (Instr.sliceBounds isS len cap (lo.map a.eval) (hi.map a.eval) none).run P w = .ok (l.toNat, r.toNat, cap) w := by
  unfold Instr.sliceBounds
  rcases bnd_sound h hhi eh with ⟨rfl, hr⟩ | ⟨z, k, rfl, hz⟩
  · rcases bnd_sound h hlo el with ⟨rfl, hl'⟩ | ⟨z', k', rfl, hz'⟩
    · subst hr hl'; simp
    · subst hr
      simp [run_bound hz' h0 (show l ≤ ((len : Nat) : Int) by omega)]
  · rcases bnd_sound h hlo el with ⟨rfl, hl'⟩ | ⟨z', k', rfl, hz'⟩
    · subst hl'
      simp [run_bound hz (by omega) (show r ≤ ((cap : Nat) : Int) by omega)]
    · simp [run_bound hz (by omega) (show r ≤ ((cap : Nat) : Int) by omega), run_bound hz' h0 (show l ≤ ((r.toNat : Nat) : Int) by omega)]
end
end AM
/-! The simulation of slices, literals, structs, functions, checks for nil, made slices. -/
namespace AM
open Go
section
variable {P : Program} {gl : Glob} {N : Nat} {g : Gh} {s s' : St} {a : Act} {w : World} {o : Oper}

def strOk (P : Program) (t : TypeId) : Bool := match P.underlying t with | some .string => true | _ => false
theorem strOk_spec {t : TypeId} (h : strOk P t = true) : P.underlying t = some .string := by unfold strOk at h; split at h <;> simp_all
def chkSlc (P : Program) (N : Nat) (o : Oper) (d szz : Nat) (x : Opd) (lo hi : Option Opd) : Bool := dstIs N o d &&
  (match o.op with | .slice t x' lo' hi' none => chkOpd x' x && chkBnd lo' lo && chkBnd hi' hi && (if szz = 0 then strOk P t else sliceOk P t szz) | _ => false)
theorem mk_extract (l : List UInt8) (i j : Nat) : (ByteArray.mk l.toArray).extract i j = ByteArray.mk ((l.take j).drop i).toArray := by
  apply ByteArray.ext
  simp only [ByteArray.data_extract]
  apply Array.ext'
  simp [List.drop_take]
theorem run_slice_str {t : TypeId} {l : List UInt8} {lo hi : Option Value} {i j : Nat} (hu : P.underlying t = some .string) (hb : (Instr.sliceBounds false l.length l.length lo hi none).run P w = .ok (i, j, l.length) w) :
    (Instr.sliceAt t (.string ⟨l.toArray⟩) lo hi none).run P w = .ok (.string ⟨((l.take j).drop i).toArray⟩) w := by
  have e : (ByteArray.mk l.toArray).size = l.length := by simp [ByteArray.size]
  simp only [Instr.sliceAt, Sem.run_bind, run_underlying hu, Result.andThen_ok, Instr.slice, Option.isSome_none, Bool.false_eq_true, if_false, e, hb, Sem.run_pure, mk_extract]
theorem run_slice_slc {t e : TypeId} {f : TypeInfo} {base : Option Addr} {len cap : Nat} {lo hi : Option Value} {i j : Nat} (hu : P.underlying t = some (.slice e)) (hf : P.info? e = some f)
    (hb : (Instr.sliceBounds true len cap lo hi none).run P w = .ok (i, j, cap) w) :
    (Instr.sliceAt t (.slice base len cap) lo hi none).run P w = .ok (.slice (if cap = i then base else base.map (·.add (i * f.size))) (j - i) (cap - i)) w := by
  simp only [Instr.sliceAt, Sem.run_bind, run_underlying hu, Result.andThen_ok, Instr.slice, hb, Sem.run_pure, Go.sizeOf, typeInfo, run_program, hf]
theorem PR.list_of {γ : Gam} {b off cap sz : Nat} {xs : List AV} {n : Nat} (hn : n = xs.length) (h1 : xs.length ≤ M) (h1' : xs.length ≤ cap) (h2 : PRr γ b off sz xs) : PR γ (.list none sz xs) (.slice (some ⟨b, off, none⟩) n cap) := by
  subst hn; exact .list _ _ _ _ _ h1 h1' h2
theorem PR.list_nil {γ : Gam} {sz n cap : Nat} {base : Option Addr} {xs : List AV} (hx : xs = []) (hn : n = 0) : PR γ (.list none sz xs) (.slice base n cap) := by
  subst hx; subst hn; exact .list0 _ _ _
theorem sim_slc {d szz : Nat} {x : Opd} {lo hi : Option Opd} (h : Rel P gl N g s a w) (hc : chkSlc P N o d szz x lo hi = true) (he : ev gl s (.slc d szz x lo hi) = some s') : Sim1 P gl N o g a w s' := by
  simp only [chkSlc, Bool.and_eq_true] at hc
  obtain ⟨hd, hop⟩ := hc
  split at hop
  · rename_i t x' lo' hi' ho
    simp only [Bool.and_eq_true] at hop
    obtain ⟨⟨⟨hx, hlo⟩, hhi⟩, hk⟩ := hop
    simp only [ev] at he
    split at he
    · rename_i l hl
      split at he
      · rename_i i j hi1 hj1
        split at he
        · rename_i hb
          obtain ⟨h0, h1, h2, h3⟩ := hb
          simp only [h0, if_true] at hk
          have hu := strOk_spec hk
          have hv := (evO_sound h hx hl).str_inv
          have hbd := run_bounds (P := P) (w := w) h false hlo hhi hi1 hj1 h1 h2 h3 (Nat.le_refl _)
          refine .value h hd he ?_ (.pure _ _ (.str ((l.take j.toNat).drop i.toNat) ?_)) (notOwn_str _)
          · simp only [execOp, ho, Option.map_none, Sem.run_bind, hv.1, run_slice_str hu hbd, Result.andThen_ok, Sem.run_pure]
          · have := hv.2; simp; omega
        · cases he
      · cases he
    · rename_i own sz xs hl
      split at he
      · rename_i i j hi1 hj1
        split at he
        · rename_i hb
          obtain ⟨h0, h00, h1, h2, h3⟩ := hb
          subst h0
          simp only [h00, if_false] at hk
          unfold sliceOk at hk
          split at hk
          · rename_i e hu
            split at hk
            · rename_i f hf
              simp at hk
              obtain ⟨base, cap, p1, p2, p3⟩ := (evO_sound h hx hl).list_inv
              have hcap : xs.length ≤ cap := p2.2
              have hbd := run_bounds (P := P) (w := w) h true hlo hhi hi1 hj1 h1 h2 h3 hcap
              refine .value h hd he (v := .slice (if cap = i.toNat then base else base.map (·.add (i.toNat * f.size))) (j.toNat - i.toNat) (cap - i.toNat)) ?_ ?_ (NotOwn.none _ _)
              · simp only [execOp, ho, Option.map_none, Sem.run_bind, p1, run_slice_slc hu hf hbd, Result.andThen_ok, Sem.run_pure]
              · have hlen : ((xs.take j.toNat).drop i.toNat).length = j.toNat - i.toNat := by simp; omega
                by_cases hij : j.toNat = i.toNat
                · exact .pure _ _ (.list_nil (by apply List.eq_nil_of_length_eq_zero; omega) (by omega))
                · rcases p3 with rfl | ⟨b, off, rfl, p5⟩
                  · simp at h3; omega
                  · have hne : ¬ cap = i.toNat := by omega
                    simp only [hne, if_false, Option.map_some, addr_add, hk]
                    exact .pure _ _ (.list_of hlen.symm (by simp; omega) (by omega) ((p5.take _).drop _))
            · cases hk
          · cases hk
        · cases he
      · cases he
    · rename_i sz hl
      split at he
      · rename_i i j hi1 hj1
        split at he
        · rename_i hb
          obtain ⟨h0, h00, h1, h2⟩ := hb
          subst h0 h1 h2
          simp only [h00, if_false] at hk
          unfold sliceOk at hk
          split at hk
          · rename_i e hu
            split at hk
            · rename_i f hf
              have p1 := (evO_sound h hx hl).nils_inv
              have hbd := run_bounds (P := P) (w := w) (len := 0) (cap := 0) h true hlo hhi hi1 hj1 (by omega) (by omega) (by omega) (by omega)
              refine .value h hd he (v := .slice none 0 0) ?_ (.pure _ _ (.nils _)) (fun _ _ _ h => by simp at h)
              simp only [execOp, ho, Option.map_none, Sem.run_bind, p1, run_slice_slc hu hf hbd, Result.andThen_ok, Sem.run_pure]
              simp
            · cases hk
          · cases hk
        · cases he
      · cases he
    · rename_i id off n sz hl
      split at he
      · rename_i i j hi1 hj1
        split at he
        · rename_i hb
          obtain ⟨h0, h00, h1, h2, h3⟩ := hb
          subst h0
          simp only [h00, if_false] at hk
          unfold sliceOk at hk
          split at hk
          · rename_i e hu
            split at hk
            · rename_i f hf
              simp at hk
              obtain ⟨b, kk, cap, q1, q2, q3, q4, q5⟩ := (evO_sound h hx hl).sl_inv
              have hbd := run_bounds (P := P) (w := w) h true hlo hhi hi1 hj1 h1 h2 h3 q4
              have hrun : (execOp a.eval o).run P w = .ok (.value (.slice (if cap = i.toNat then some ⟨b, off, none⟩ else (some (⟨b, off, none⟩ : Addr)).map (·.add (i.toNat * f.size))) (j.toNat - i.toNat) (cap - i.toNat))) w := by
                simp only [execOp, ho, Option.map_none, Sem.run_bind, q5, run_slice_slc hu hf hbd, Result.andThen_ok, Sem.run_pure]
              split at he
              · rename_i hij
                exact .value h hd he hrun (.pure _ _ (.list_nil rfl (by omega))) (NotOwn.none _ _)
              · rename_i hij
                refine .value h hd he hrun ?_ (fun _ _ _ h => by simp at h)
                by_cases hc0 : cap = i.toNat
                · have hi0 : i = 0 := by omega
                  subst hi0
                  simp only [Int.toNat_zero] at hc0
                  subst hc0
                  simpa using VR.sl id off (j.toNat) szz b kk 0 q1 q2 q3 (by omega)
                · simp only [hc0, if_false, Option.map_some, addr_add, hk]
                  refine VR.sl id _ _ szz b kk (cap - i.toNat) q1 q2 ?_ (by omega)
                  rw [← q3, Nat.add_assoc, ← Nat.add_mul]; congr 2; omega
            · cases hk
          · cases hk
        · cases he
      · cases he
    · cases he
  · cases hop

theorem VRs.all_one {cs : List AV} {ws : List Value} (h : VRs g cs ws) (h1 : cs.all AV.one = true) : ∀ v ∈ ws, v.oneCell' = true := by
  induction ws generalizing cs with
  | nil => simp
  | cons v ws ih => cases h with
    | cons c cs _ _ hv hvs =>
      simp only [List.all_cons, Bool.and_eq_true] at h1
      intro u hu
      rcases List.mem_cons.1 hu with rfl | hu
      · cases hv with
        | pure _ _ hp => cases hp <;> first | rfl | simp [AV.one] at h1
        | own _ _ _ _ hp => cases hp <;> rfl
        | ptr => rfl
        | map => rfl
        | sl => rfl
        | nilc => rfl
        | fn => rfl
        | agg => simp [AV.one] at h1
        | tup => simp [AV.one] at h1
      · exact ih hvs h1.2 u hu

theorem VR.cells {x : AV} {v : Value} (h : VR g x v) (hx : x.cells.all AV.one = true) : VRs g x.cells v.cells.toList ∧ (∀ u ∈ v.cells.toList, u.oneCell' = true) := by
  by_cases hag : ∃ cs, x = .agg cs
  · obtain ⟨cs, rfl⟩ := hag
    obtain ⟨ws, rfl, p1, p2⟩ := h.agg_inv
    exact ⟨by simpa [AV.cells, Value.cells] using p1, by simpa [Value.cells] using p2⟩
  · have e : x.cells = [x] := by cases x <;> first | rfl | exact absurd ⟨_, rfl⟩ hag
    rw [e] at hx ⊢
    have hv : v.cells = #[v] := by
      cases h with
      | pure _ _ hp => cases hp <;> first | rfl | exact absurd ⟨_, rfl⟩ hag
      | own _ _ _ _ hp => cases hp <;> rfl
      | ptr => rfl
      | map => rfl
      | sl => rfl
      | nilc => rfl
      | fn => rfl
      | agg => exact absurd ⟨_, rfl⟩ hag
      | tup => rfl
    rw [hv]
    have h1 : VRs g [x] [v] := .cons _ _ _ _ h .nil
    exact ⟨h1, h1.all_one hx⟩

def chkMm (N : Nat) (o : Oper) (d : Nat) (mx : Bool) (x y : Opd) : Bool := dstIs N o d &&
  (match bcall o.op with | some (b, [x', y'], _) => chkOpd x' x && chkOpd y' y && (match b with | .max => mx | .min => !mx | _ => false) | _ => false)
theorem sim_mm {d : Nat} {mx : Bool} {x y : Opd} (h : Rel P gl N g s a w) (hc : chkMm N o d mx x y = true) (he : ev gl s (.mm d mx x y) = some s') : Sim1 P gl N o g a w s' := by
  simp only [chkMm, Bool.and_eq_true] at hc
  obtain ⟨hd, hop⟩ := hc
  split at hop
  · rename_i b x' y' ts ho
    obtain ⟨cst, hrun⟩ := bcall_run (o := o) ho rfl a.eval
    simp only [Bool.and_eq_true] at hop
    obtain ⟨⟨hx, hy⟩, hk⟩ := hop
    simp only [ev] at he
    split at he
    · rename_i k m k' n h1 h2
      have p1 := (evO_sound h hx h1).int_inv
      have p2 := (evO_sound h hy h2).int_inv
      refine .value h hd he (v := .int k (if mx = true then (if n > m then n else m) else (if n < m then n else m))) ?_ (.pure _ _ (.int _ _)) (notOwn_int _ _)
      rw [hrun]
      split at hk
      · subst hk; simp [builtin, p1, p2, Builtin.max_, Builtin.max2]
      · simp at hk; subst hk; simp [builtin, p1, p2, Builtin.min_, Builtin.min2]
      · cases hk
    · cases he
  · cases hop

def chkNilchk (N : Nat) (o : Oper) (d : Nat) (x : Opd) : Bool := dstIs N o d && (match o.op with | .nilCheck x' => chkOpd x' x | _ => false)
theorem sim_nilchk {d : Nat} {x : Opd} (h : Rel P gl N g s a w) (hc : chkNilchk N o d x = true) (he : ev gl s (.nilchk d x) = some s') : Sim1 P gl N o g a w s' := by
  simp only [chkNilchk, Bool.and_eq_true] at hc
  obtain ⟨hd, hop⟩ := hc
  split at hop
  · rename_i x' ho
    have hrun : ∀ b o', a.eval x' = ptrTo b o' → (execOp a.eval o).run P w = .ok (.value (ptrTo b o')) w := by
      intro b o' e; simp [execOp, ho, e, ptrTo]
    simp only [ev] at he
    split at he
    · rename_i n
      have hy : x' = .tmp n := by unfold chkOpd at hop; split at hop <;> simp_all
      subst hy
      split at he
      · rename_i cs hn
        obtain ⟨b, p1, p2⟩ := h.env _ _ hn
        split at he
        · rename_i hok
          simp at he; subst he
          exact .addr h hd hok hn p1 (hrun _ _ (by simp [Act.eval, p1]))
        · cases he
      · rename_i t off hn
        obtain ⟨⟨cs, hu⟩, b, p1, p2⟩ := h.env _ _ hn
        split at he
        · rename_i hok
          simp at he; subst he
          exact .addr h hd hok hu p2 (hrun _ _ (by simp [Act.eval, p1]))
        · cases he
      · rename_i id off hn
        obtain ⟨v, p1, p2, _⟩ := h.env _ _ hn
        obtain ⟨b, q1, q2⟩ := p2.ptr_inv
        exact .value h hd he (hrun _ _ (by simp [Act.eval, p1, q2])) (q2 ▸ p2) (notOwn_ptr _ _)
      · rename_i cs hn
        obtain ⟨v, p1, p2, _⟩ := h.env _ _ hn
        obtain ⟨b, off, q1, q2⟩ := p2.cptr_inv
        exact .value h hd he (hrun _ _ (by simp [Act.eval, p1, q1])) (q1 ▸ p2) (notOwn_cptr _)
      · cases he
    · cases he
  · cases hop

theorem notOwn_fn (f : Nat) (cs : List AV) : NotOwn (.fn f cs) := fun _ _ _ h => by simp at h
def chkMkfn (N : Nat) (o : Oper) (d f : Nat) (caps : List Opd) : Bool := dstIs N o d &&
  (match o.op with | .makeFunc (.func f') first caps' => f' == f && first.size == 0 && chkOpds caps'.toList caps | _ => false)
theorem sim_mkfn {d f : Nat} {caps : List Opd} (h : Rel P gl N g s a w) (hc : chkMkfn N o d f caps = true) (he : ev gl s (.mkfn d f caps) = some s') : Sim1 P gl N o g a w s' := by
  simp only [chkMkfn, Bool.and_eq_true] at hc
  obtain ⟨hd, hop⟩ := hc
  split at hop
  · rename_i f' first caps' ho
    simp only [Bool.and_eq_true, beq_iff_eq] at hop
    obtain ⟨⟨rfl, h0⟩, hcs⟩ := hop
    have h0' : first = #[] := Array.eq_empty_of_size_eq_zero h0
    subst h0'
    obtain ⟨vs, p1, p2⟩ := bind_some he
    split at p2
    · have q := (evOs_sound h hcs p1).noOwn
      refine .value h hd p2 (v := .func (.func f') #[] (caps'.toList.map a.eval).toArray) ?_ (.fn _ _ _ q) (notOwn_fn _ _)
      have e : (List.map a.eval caps'.toList).toArray = caps'.map a.eval := by apply Array.ext'; simp
      simp only [execOp, ho, Sem.run_bind, Instr.makeFunc, Sem.run_pure, Result.andThen_ok, e]
      simp
    · cases p2
  · cases hop
end
end AM
