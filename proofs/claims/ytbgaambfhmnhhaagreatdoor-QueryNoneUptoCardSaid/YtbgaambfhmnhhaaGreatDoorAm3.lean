/- An abstract machine for the program of the seat, and what of the given program it does, part 4 of 16. Conditions: none. -/
import Derived.Test.YtbgaambfhmnhhaaGreatDoorAm2
import Derived.Laws.CopyRow
/-! The simulation of new boxes and objects, and of stores. -/
namespace AM
open Go
section
variable {P : Program} {gl : Glob} {N : Nat} {g g' : Gh} {s s' : St} {a : Act} {w w' : World} {o : Oper}

theorem cell_lt {b off : Nat} {v : Value} (h : w.cell? ⟨b, off, none⟩ = some v) : b < w.heap.size := by
  unfold World.cell? at h
  cases hb : w.heap[b]? with
  | none => simp [hb] at h
  | some x => exact (Array.getElem?_eq_some_iff.1 hb).1
theorem cell_alloc {b off : Nat} {v : Value} (x : Obj) (h : w.cell? ⟨b, off, none⟩ = some v) : (w.alloc x).cell? ⟨b, off, none⟩ = some v := by
  have hl := cell_lt h
  unfold World.cell? at h ⊢
  rw [heap_alloc_old w x (h := hl)]; exact h

theorem alloc_size (w : World) (x : Obj) : (w.alloc x).heap.size = w.heap.size + 1 := by show (w.heap.push x).size = _; simp
def Gh.setO (g : Gh) (b : Nat) (ow : Owner) : Gh := { g with Ω := fun k => if k = b then ow else g.Ω k }
theorem Rel.gnone (h : Rel P gl N g s a w) (off : Nat) : g.γ w.heap.size off = none := by
  cases hh : g.γ w.heap.size off with
  | none => rfl
  | some v => have := cell_lt (h.gam _ _ _ hh); omega
theorem Rel.onone (h : Rel P gl N g s a w) : g.Ω w.heap.size = .none := by
  cases hh : g.Ω w.heap.size <;> first | rfl | (have := h.own w.heap.size (by rw [hh]; simp); omega)
/-- A new block for an owner. -/
theorem Rel.alloc (h : Rel P gl N g s a w) (x : Obj) (ow : Owner) :
    GLe g w (g.setO w.heap.size ow) (w.alloc x) ∧ Rel P gl N (g.setO w.heap.size ow) s a (w.alloc x) := by
  have hle : GhLe g (g.setO w.heap.size ow) := ⟨fun _ _ _ h => h, fun _ _ h => h⟩
  have hne : ∀ b, g.Ω b ≠ .none → b ≠ w.heap.size := fun b hb e => by subst e; exact hb h.onone
  have hsame : ∀ b, g.Ω b ≠ .none → (g.setO w.heap.size ow).Ω b = g.Ω b ∧ (w.alloc x).heap[b]? = w.heap[b]? ∧ ∀ o, (g.setO w.heap.size ow).γ b o = g.γ b o := fun b hb =>
    ⟨by simp [Gh.setO, hne b hb], heap_alloc_old w x (h := h.own b hb), fun _ => rfl⟩
  refine ⟨⟨hle, fun b hb => ?_, by rw [alloc_size]; omega, rfl, rfl⟩, h.step .none (PosFree.none s) hle (fun b hb => hsame b hb.1) (fun b off v hv => cell_alloc x (h.gam b off v hv)) (fun b hb => ?_) h.rho⟩
  · obtain ⟨h1, h2, h3⟩ := hsame b (by rw [hb]; simp)
    exact ⟨h1.trans hb, h2, h3⟩
  · by_cases e : b = w.heap.size
    · rw [alloc_size]; omega
    · simp [Gh.setO, e] at hb; have := h.own b hb; rw [alloc_size]; omega

/-- A new block of cells is a box. -/
theorem BlkR.new {ow : Owner} {oc : Nat → Owner} {cs : List AV} {ws : List Value} {ty : TypeId} (hg : ∀ off, g.γ w.heap.size off = none) (hc : VRs g cs ws) (h1 : ∀ v ∈ ws, v.oneCell' = true)
    (hn : ∀ c ∈ cs, NotOwn c) : BlkR P (g.setO w.heap.size ow) (w.alloc (.cells ws.toArray ty)) w.heap.size ow oc cs := by
  refine ⟨ws.toArray, ty, heap_alloc_new w _, by simp [hc.get.1], by simp [Gh.setO], hg, fun i c hi => ?_⟩
  obtain ⟨v, p1, p2⟩ := hc.get.2 i c hi
  exact ⟨v, by simpa using p1, h1 v (List.mem_of_getElem? p1), p2.mono (⟨fun _ _ _ h => h, fun _ _ h => h⟩ : GhLe g (g.setO w.heap.size ow)), (hn c (List.mem_of_getElem? hi)).ownR⟩

def zeroOk (P : Program) (e : TypeId) (z : List AV) : Bool :=
  match P.info? e with
  | some i => (match i.zero with | some v => v.cells.size == z.length && (v.cells.toList.zip z).all fun (v, x) => const1 v x | none => false)
  | none => false
theorem zeroOk_spec {e : TypeId} {z : List AV} (h : zeroOk P e z = true) : ∃ i v, P.info? e = some i ∧ i.zero = some v ∧ VRs g z v.cells.toList ∧ (∀ u ∈ v.cells.toList, u.oneCell' = true) ∧ ∀ c ∈ z, NotOwn c := by
  unfold zeroOk at h
  split at h
  · rename_i i hi
    split at h
    · rename_i v hv
      simp only [Bool.and_eq_true, beq_iff_eq] at h
      obtain ⟨h1, h2⟩ := h
      have hp : ∀ (k : Nat) u c, v.cells.toList[k]? = some u → z[k]? = some c → PR g.γ c u ∧ u.oneCell' = true := fun k u c hu hc => const1_sound (zip_all (by simpa using h1) h2 k u c hu hc)
      refine ⟨i, v, hi, hv, .of_get (by simpa using h1) fun k c u hc hu => .pure _ _ (hp k u c hu hc).1, fun u hu => ?_, fun c hc => ?_⟩
      · obtain ⟨k, hk, hku⟩ := List.getElem_of_mem hu
        have hkl : k < z.length := by have : k < v.cells.toList.length := hk; simp at this; omega
        exact (hp k u z[k] (by rw [List.getElem?_eq_getElem hk, hku]) (by simp [hkl])).2
      · obtain ⟨k, hk, hkc⟩ := List.getElem_of_mem hc
        have hkl : k < v.cells.toList.length := by simp; omega
        have := (hp k v.cells.toList[k] c (List.getElem?_eq_getElem hkl) (by rw [List.getElem?_eq_getElem hk, hkc])).1
        intro e sz xs e'
        subst e'; cases this
    · cases h
  · cases h

def chkAlloc (P : Program) (N : Nat) (o : Oper) (d : Nat) (z : List AV) : Bool := dstIs N o d && (match o.op with | .alloc e => zeroOk P e z | _ => false)
theorem run_alloc {e : TypeId} {i : TypeInfo} {v : Value} (hi : P.info? e = some i) (hz : i.zero = some v) : (Instr.alloc e true (.tuple #[])).run P w = .ok (ptrTo w.heap.size 0) (w.alloc (.cells v.cells e)) := by
  simp [Instr.alloc, zeroValue, typeInfo, hi, hz, newVar, newRow, newObj, Sem.run, ptrTo]
theorem sim_alloc {d : Nat} {z : List AV} (h : Rel P gl N g s a w) (hc : chkAlloc P N o d z = true) (he : ev gl s (.alloc d z) = some s') : Sim1 P gl N o g a w s' := by
  simp only [chkAlloc, Bool.and_eq_true] at hc
  obtain ⟨hd, hop⟩ := hc
  split at hop
  · rename_i e ho
    obtain ⟨i, v, p1, p2, p3, p4, p5⟩ := zeroOk_spec (g := g) hop
    simp only [ev] at he
    simp only [dstIs, Bool.and_eq_true, beq_iff_eq, decide_eq_true_eq] at hd
    obtain ⟨q1, q2⟩ := h.alloc (.cells v.cells e) (.bx d)
    refine ⟨ptrTo w.heap.size 0, w.alloc (.cells v.cells e), g.setO w.heap.size (.bx d), .inl ?_, q1, ?_⟩
    · simp only [execOp, ho, Sem.run_bind, run_alloc p1 p2, Result.andThen_ok, Sem.run_pure]
    · rw [hd.1]
      refine q2.putB he hd.2 ?_
      have := BlkR.new (P := P) (ow := .bx d) (oc := .bc d) (ty := e) h.gnone p3 p4 p5
      simpa using this
  · cases hop
def chkBox (N : Nat) (o : Oper) (d : Nat) (x : Opd) : Bool := dstIs N o d && (match o.op with | .box _ x' => chkOpd x' x | _ => false)
theorem run_box (e : TypeId) (v : Value) : (Instr.box e v).run P w = .ok (ptrTo w.heap.size 0) (w.alloc (.cells v.cells e)) := by
  simp [Instr.box, newVar, newRow, newObj, Sem.run, ptrTo]
theorem notOwn_map {cs : List AV} : ∀ c ∈ cs.map AV.noOwn, NotOwn c := fun c hc => by
  obtain ⟨x, _, rfl⟩ := List.mem_map.1 hc; exact NotOwn.noOwn x
theorem sim_box {d : Nat} {x : Opd} (h : Rel P gl N g s a w) (hc : chkBox N o d x = true) (he : ev gl s (.box d x) = some s') : Sim1 P gl N o g a w s' := by
  simp only [chkBox, Bool.and_eq_true] at hc
  obtain ⟨hd, hop⟩ := hc
  split at hop
  · rename_i e x' ho
    obtain ⟨u, h1, h2⟩ := bind_some he
    split at h2
    · rename_i hone
      simp only [dstIs, Bool.and_eq_true, beq_iff_eq, decide_eq_true_eq] at hd
      obtain ⟨p1, p2⟩ := (evO_sound h hop h1).cells hone
      obtain ⟨q1, q2⟩ := h.alloc (.cells (a.eval x').cells e) (.bx d)
      refine ⟨ptrTo w.heap.size 0, w.alloc (.cells (a.eval x').cells e), g.setO w.heap.size (.bx d), .inl ?_, q1, ?_⟩
      · simp only [execOp, ho, Sem.run_bind, run_box, Result.andThen_ok, Sem.run_pure]
      · rw [hd.1]
        refine q2.putB h2 hd.2 ?_
        have := BlkR.new (P := P) (ow := .bx d) (oc := .bc d) (ty := e) h.gnone p1.noOwn p2 notOwn_map
        simpa using this
    · cases h2
  · cases hop

/-- A new object of the heap. -/
theorem Rel.allocH (h : Rel P gl N g s a w) {cs : List AV} {ws : List Value} (ty : TypeId) (hc : VRs g cs ws) (h1 : ∀ v ∈ ws, v.oneCell' = true) (hn : ∀ c ∈ cs, NotOwn c) :
    ∃ g', GLe g w g' (w.alloc (.cells ws.toArray ty)) ∧ Rel P gl N g' { s with heap := s.heap ++ [AObj.cells cs] } a (w.alloc (.cells ws.toArray ty)) ∧ g'.ρ s.heap.length = some w.heap.size := by
  obtain ⟨q1, q2⟩ := h.alloc (.cells ws.toArray ty) (.ob s.heap.length)
  have hb := BlkR.new (P := P) (ow := .ob s.heap.length) (oc := .oc s.heap.length) (ty := ty) h.gnone hc h1 hn
  let g2 : Gh := { g.setO w.heap.size (.ob s.heap.length) with ρ := fun id => if id = s.heap.length then some w.heap.size else g.ρ id }
  have hle : GhLe (g.setO w.heap.size (.ob s.heap.length)) g2 := ⟨fun _ _ _ h => h, fun id b hid => by
    have := h.rho id b hid
    simp [g2, show id ≠ s.heap.length by omega]; exact hid⟩
  have hk : ∀ K, Kept (g.setO w.heap.size (.ob s.heap.length)) (w.alloc (.cells ws.toArray ty)) g2 (w.alloc (.cells ws.toArray ty)) K := fun K b _ => ⟨rfl, rfl, fun _ => rfl⟩
  refine ⟨g2, q1.trans ⟨hle, fun b hb => ⟨hb, rfl, fun _ => rfl⟩, Nat.le_refl _, rfl, rfl⟩, ?_, by simp [g2]⟩
  refine ⟨q2.sorted, q2.size, q2.defers, fun t e he => (q2.env t e he).kept hle (hk fun _ => True) trivial trivial (fun _ => trivial), fun id ob hob => ?_, q2.gam, q2.own, q2.glob, fun id b hid => ?_⟩
  · simp only at hob
    rcases Nat.lt_trichotomy id s.heap.length with hlt | rfl | hgt
    · rw [List.getElem?_append_left hlt] at hob
      exact (q2.heap id ob hob).kept hle (hk fun _ => True) (fun _ => trivial) (fun _ => trivial)
    · simp at hob; subst hob
      exact ⟨w.heap.size, by simp [g2], hb.kept hle (hk fun _ => True) trivial (fun _ => trivial)⟩
    · rw [List.getElem?_eq_none (by simp; omega)] at hob; cases hob
  · simp only [List.length_append, List.length_singleton]
    by_cases e : id = s.heap.length
    · omega
    · simp [g2, e] at hid; have := h.rho id b hid; omega
def chkAllocH (P : Program) (N : Nat) (o : Oper) (d : Nat) (z : List AV) : Bool := chkAlloc P N o d z
theorem sim_allocH {d : Nat} {z : List AV} (h : Rel P gl N g s a w) (hc : chkAllocH P N o d z = true) (he : ev gl s (.allocH d z) = some s') : Sim1 P gl N o g a w s' := by
  simp only [chkAllocH, chkAlloc, Bool.and_eq_true] at hc
  obtain ⟨hd, hop⟩ := hc
  split at hop
  · rename_i e ho
    obtain ⟨i, v, p1, p2, p3, p4, p5⟩ := zeroOk_spec (g := g) hop
    simp only [ev] at he
    simp only [dstIs, Bool.and_eq_true, beq_iff_eq, decide_eq_true_eq] at hd
    obtain ⟨g', q1, q2, q3⟩ := h.allocH e p3 p4 p5
    refine ⟨ptrTo w.heap.size 0, w.alloc (.cells v.cells e), g', .inl ?_, by simpa using q1, ?_⟩
    · simp only [execOp, ho, Sem.run_bind, run_alloc p1 p2, Result.andThen_ok, Sem.run_pure]
    · rw [hd.1]
      have := q2.put he hd.2 (.ptr _ 0 _ q3) (notOwn_ptr _ _).ownR
      simpa [ptrTo] using this
  · cases hop
def chkBoxH (N : Nat) (o : Oper) (d : Nat) (x : Opd) : Bool := chkBox N o d x
theorem sim_boxH {d : Nat} {x : Opd} (h : Rel P gl N g s a w) (hc : chkBoxH N o d x = true) (he : ev gl s (.boxH d x) = some s') : Sim1 P gl N o g a w s' := by
  simp only [chkBoxH, chkBox, Bool.and_eq_true] at hc
  obtain ⟨hd, hop⟩ := hc
  split at hop
  · rename_i e x' ho
    obtain ⟨u, h1, h2⟩ := bind_some he
    split at h2
    · rename_i hone
      simp only [dstIs, Bool.and_eq_true, beq_iff_eq, decide_eq_true_eq] at hd
      obtain ⟨p1, p2⟩ := (evO_sound h hop h1).cells hone
      obtain ⟨g', q1, q2, q3⟩ := h.allocH e p1.noOwn p2 notOwn_map
      refine ⟨ptrTo w.heap.size 0, w.alloc (.cells (a.eval x').cells e), g', .inl ?_, by simpa using q1, ?_⟩
      · simp only [execOp, ho, Sem.run_bind, run_box, Result.andThen_ok, Sem.run_pure]
      · rw [hd.1]
        have := q2.put h2 hd.2 (.ptr _ 0 _ q3) (notOwn_ptr _ _).ownR
        simpa [ptrTo] using this
    · cases h2
  · cases hop
end
end AM
/-! The simulation of stores, of loads that take, of literals and structs. -/
namespace AM
open Go
section
variable {P : Program} {gl : Glob} {N : Nat} {g g' : Gh} {s s' : St} {a : Act} {w w' : World} {o : Oper}

theorem setCells_eq : ∀ (vs cs : List AV) (off : Nat), off + vs.length ≤ cs.length → setCells cs off vs = cs.take off ++ vs ++ cs.drop (off + vs.length)
  | [], cs, off, _ => by simp [setCells]
  | v :: r, cs, off, h => by
    simp only [List.length_cons] at h
    rw [setCells, setCells_eq r (cs.set off v) (off + 1) (by simp; omega)]
    have hlt : off < cs.length := by omega
    apply List.ext_getElem?
    intro i
    simp only [List.getElem?_append, List.length_append, List.length_take, List.length_set, List.length_cons, List.getElem?_take, List.getElem?_set, List.getElem?_drop]
    rcases Nat.lt_trichotomy i off with hi | rfl | hi
    · simp [show i < min (off + 1) cs.length by omega, show i < off + 1 by omega, show i < min off cs.length by omega, show i < off by omega, show ¬ off = i by omega, show i < min (off + 1) cs.length + r.length by omega, show i < min off cs.length + (r.length + 1) by omega]
    · simp [hlt, show i < min (i + 1) cs.length by omega, show ¬ i < min i cs.length by omega, show i < min (i + 1) cs.length + r.length by omega, show i < min i cs.length + (r.length + 1) by omega, show i - min i cs.length = 0 by omega]
    · by_cases h2 : i < off + 1 + r.length
      · simp [show ¬ i < min (off + 1) cs.length by omega, show ¬ i < min off cs.length by omega, show i < min (off + 1) cs.length + r.length by omega, show i < min off cs.length + (r.length + 1) by omega,
          show i - min off cs.length = (i - min (off + 1) cs.length) + 1 by omega]
      · simp [show ¬ i < min (off + 1) cs.length + r.length by omega, show ¬ i < min off cs.length + (r.length + 1) by omega,
          show ¬ off = off + (r.length + 1) + (i - (min off cs.length + (r.length + 1))) by omega,
          show off + 1 + r.length + (i - (min (off + 1) cs.length + r.length)) = off + (r.length + 1) + (i - (min off cs.length + (r.length + 1))) by omega]

theorem splice_get {α : Type} (l mid : List α) (off i : Nat) (h : off + mid.length ≤ l.length) : (l.take off ++ mid ++ l.drop (off + mid.length))[i]? = if i < off then l[i]? else if i < off + mid.length then mid[i - off]? else l[i]? := by
  have e1 : (l.take off).length = off := by simp; omega
  by_cases h1 : i < off
  · rw [List.append_assoc, List.getElem?_append_left (by omega), List.getElem?_take]; simp [h1]
  · by_cases h2 : i < off + mid.length
    · rw [List.append_assoc, List.getElem?_append_right (by omega), e1, List.getElem?_append_left (by omega)]; simp [h1, h2]
    · rw [List.getElem?_append_right (by simp; omega), List.getElem?_drop]
      simp only [h1, h2, if_false]
      congr 1; simp; omega

/-- The cells of a block after a write. -/
theorem BlkR.write {b : Nat} {ow : Owner} {oc : Nat → Owner} {cs vs : List AV} {us : List Value} {off : Nat} (h : BlkR P g w b ow oc cs) (hv : VRs g vs us) (h1 : ∀ v ∈ us, v.oneCell' = true)
    (hb : off + vs.length ≤ cs.length) (ho : ∀ (i : Nat) c u, vs[i]? = some c → us[i]? = some u → OwnR P g w (oc (off + i)) c u) (hne : ∀ i, oc i ≠ ow) :
    ∃ arr ty, w.heap[b]? = some (.cells arr ty (0, 0)) ∧ off + us.length ≤ arr.size ∧
      BlkR P g (w.setRow b (arr.toList.take off ++ us ++ arr.toList.drop (off + us.length)).toArray) b ow oc (setCells cs off vs) := by
  obtain ⟨arr, ty, q1, q2, q3, q4, q5⟩ := h
  have hl := hv.get.1
  have hsz : off + us.length ≤ arr.toList.length := by simp; omega
  refine ⟨arr, ty, q1, by omega, _, ty, setRow_heap w b arr _ ty (0, 0) q1, ?_, q3, q4, fun i c hc => ?_⟩
  · rw [setCells_eq _ _ _ hb]; simp; omega
  · rw [setCells_eq _ _ _ hb, splice_get _ _ _ _ hb, ← hl] at hc
    have hown : ∀ {i : Nat} {c : AV} {v : Value}, OwnR P g w (oc i) c v → OwnR P g (w.setRow b (arr.toList.take off ++ us ++ arr.toList.drop (off + us.length)).toArray) (oc i) c v := by
      intro i c v hh
      refine hh.kept (K := fun o => o ≠ ow) ⟨fun _ _ _ h => h, fun _ _ h => h⟩ (fun k hk => ⟨rfl, ?_, fun _ => rfl⟩) (hne i)
      exact setRow_other w b k _ (fun e => hk (by rw [e, q3]))
    rw [List.getElem?_toArray, splice_get _ _ _ _ hsz]
    by_cases hi1 : i < off
    · simp only [hi1, if_true] at hc ⊢
      obtain ⟨v, r1, r2, r3, r4⟩ := q5 i c hc
      exact ⟨v, by simpa using r1, r2, r3, hown r4⟩
    · by_cases hi2 : i < off + us.length
      · simp only [hi1, hi2, if_true, if_false] at hc ⊢
        obtain ⟨u, r1, r2⟩ := hv.get.2 _ _ hc
        refine ⟨u, r1, h1 u (List.mem_of_getElem? r1), r2, ?_⟩
        have := hown (ho _ _ _ hc r1)
        rwa [show off + (i - off) = i by omega] at this
      · simp only [hi1, hi2, if_false] at hc ⊢
        obtain ⟨v, r1, r2, r3, r4⟩ := q5 i c hc
        exact ⟨v, by simpa using r1, r2, r3, hown r4⟩

theorem setRow_gle {b : Nat} {arr : Array Value} (hb : g.Ω b ≠ .outer) : GLe g w g (w.setRow b arr) :=
  ⟨⟨fun _ _ _ h => h, fun _ _ h => h⟩, fun k hk => ⟨hk, setRow_other w b k _ (fun e => hb (by rw [← e, hk])), fun _ => rfl⟩, by simp, rfl, rfl⟩

/-- Cells written at an address. -/
theorem wrAt_sound (h : Rel P gl N g s a w) {v : Value} {p : Adr} (hp : AdrR P g s a w v p) {vs : List AV} {us : List Value} (hv : VRs g vs us) (h1 : ∀ v ∈ us, v.oneCell' = true)
    (ho : ∀ (i : Nat) c u, vs[i]? = some c → us[i]? = some u → match p with | .bx t off => OwnR P g w (.bc t (off + i)) c u | .hp id off => OwnR P g w (.oc id (off + i)) c u | .im _ => False)
    (hw : wrAt s vs p = some s') : ∃ b off w', v = ptrTo b off ∧ (storeCells ⟨b, off, none⟩ us).run P w = .ok () w' ∧ GLe g w g w' ∧ Rel P gl N g s' a w' := by
  have hgam : ∀ (b : Nat) (arr : Array Value), (∀ off, g.γ b off = none) → ∀ k off v, g.γ k off = some v → (w.setRow b arr).cell? ⟨k, off, none⟩ = some v := by
    intro b arr hb k off v hk
    rw [cell_setRow_other w b arr _ (fun e => by simp only at e; rw [e, hb] at hk; cases hk)]
    exact h.gam _ _ _ hk
  cases p with
  | bx t off =>
    obtain ⟨b, cs, p1, p2, p3, p4⟩ := hp
    simp only [wrAt, p1] at hw
    split at hw
    · rename_i hb
      simp at hw; subst hw
      have hfull := p4
      obtain ⟨arr, ty, q1, q2, q3⟩ := p4.write hv h1 hb ho (fun i => by simp)
      obtain ⟨_, _, _, _, r3, r4, _⟩ := hfull
      have hrun := run_storeCells_at P b off ty us 0 arr w q1 (by simpa using q2) h1
      simp only [Nat.add_zero] at hrun
      refine ⟨b, off, _, p3, hrun, setRow_gle (by rw [r3]; simp), Env.Sorted.ins h.sorted t _, h.size, h.defers, fun u e he => ?_, fun id ob hob => ?_, hgam b _ r4, fun k hk => by simpa using h.own k hk, h.glob, h.rho⟩
      · simp only at he ⊢
        rw [Env.get_ins] at he
        split at he
        · rename_i ht; subst ht; simp at he; subst he
          exact ⟨b, p2, q3⟩
        · rename_i ht
          have hk : Kept g w g (w.setRow b (arr.toList.take off ++ us ++ arr.toList.drop (off + us.length)).toArray) fun o => o ≠ .bx t :=
            fun k hk => ⟨rfl, setRow_other w b k _ (fun e => hk (by rw [e, r3])), fun _ => rfl⟩
          have he' := (h.env u e he).kept ⟨fun _ _ _ h => h, fun _ _ h => h⟩ hk (by simp) (by simp [ht]) (by simp)
          cases e with
          | v x => exact he'
          | b cs => exact he'
          | a u' off' =>
            obtain ⟨⟨cs', hu⟩, hr⟩ := he'
            refine ⟨?_, hr⟩
            rw [Env.get_ins]
            by_cases e : u' = t
            · simp [e]
            · simp [e, hu]
      · have hk : Kept g w g (w.setRow b (arr.toList.take off ++ us ++ arr.toList.drop (off + us.length)).toArray) fun o => o ≠ .bx t :=
          fun k hk => ⟨rfl, setRow_other w b k _ (fun e => hk (by rw [e, r3])), fun _ => rfl⟩
        exact (h.heap id ob hob).kept ⟨fun _ _ _ h => h, fun _ _ h => h⟩ hk (by simp) (by simp)
    · cases hw
  | hp id off =>
    obtain ⟨b, p1, p2⟩ := hp
    simp only [wrAt] at hw
    split at hw
    · rename_i cs hid
      obtain ⟨b', m1, m2⟩ := h.heap _ _ hid
      rw [p1] at m1; simp at m1; subst m1
      split at hw
      · rename_i hb
        simp at hw; subst hw
        have hfull := m2
        obtain ⟨arr, ty, q1, q2, q3⟩ := m2.write hv h1 hb ho (fun i => by simp)
        obtain ⟨_, _, _, _, r3, r4, _⟩ := hfull
        have hrun := run_storeCells_at P b off ty us 0 arr w q1 (by simpa using q2) h1
        simp only [Nat.add_zero] at hrun
        have hk : Kept g w g (w.setRow b (arr.toList.take off ++ us ++ arr.toList.drop (off + us.length)).toArray) fun o => o ≠ .ob id :=
          fun k hk => ⟨rfl, setRow_other w b k _ (fun e => hk (by rw [e, r3])), fun _ => rfl⟩
        refine ⟨b, off, _, p2, hrun, setRow_gle (by rw [r3]; simp), h.sorted, h.size, h.defers,
          fun u e he => (h.env u e he).kept ⟨fun _ _ _ h => h, fun _ _ h => h⟩ hk (by simp) (by simp) (by simp), fun id' ob hob => ?_, hgam b _ r4, fun k hk => by simpa using h.own k hk, h.glob,
          fun i b hi => by simpa using h.rho i b hi⟩
        simp only at hob
        rw [List.getElem?_set] at hob
        split at hob
        · rename_i e; subst e
          split at hob
          · simp at hob; subst hob
            exact ⟨b, p1, q3⟩
          · cases hob
        · rename_i e
          exact (h.heap id' ob hob).beside ⟨fun _ _ _ h => h, fun _ _ h => h⟩ hk (fun h => e h.symm) p1 (by simp [q1]) (by simp) (by simp)
      · cases hw
    · rename_i e0 cs hid
      obtain ⟨b', kk, m1, m1', m2, ⟨arr0, m3, m4⟩, m5⟩ := h.heap _ _ hid
      rw [p1] at m1; simp at m1; subst m1
      split at hw
      · rename_i hb
        simp at hw; subst hw
        have hfull := m2
        obtain ⟨arr, ty, q1, q2, q3⟩ := m2.write hv h1 hb ho (fun i => by simp)
        obtain ⟨_, _, _, _, r3, r4, _⟩ := hfull
        have hrun := run_storeCells_at P b off ty us 0 arr w q1 (by simpa using q2) h1
        simp only [Nat.add_zero] at hrun
        have hk : Kept g w g (w.setRow b (arr.toList.take off ++ us ++ arr.toList.drop (off + us.length)).toArray) fun o => o ≠ .ob id :=
          fun k hk => ⟨rfl, setRow_other w b k _ (fun e => hk (by rw [e, r3])), fun _ => rfl⟩
        refine ⟨b, off, _, p2, hrun, setRow_gle (by rw [r3]; simp), h.sorted, h.size, h.defers,
          fun u e he => (h.env u e he).kept ⟨fun _ _ _ h => h, fun _ _ h => h⟩ hk (by simp) (by simp) (by simp), fun id' ob hob => ?_, hgam b _ r4, fun k hk => by simpa using h.own k hk, h.glob,
          fun i b hi => by simpa using h.rho i b hi⟩
        simp only at hob
        rw [List.getElem?_set] at hob
        split at hob
        · rename_i e; subst e
          split at hob
          · simp at hob; subst hob
            rw [m3] at q1; simp at q1; obtain ⟨rfl, rfl⟩ := q1
            refine ⟨b, kk, p1, m1', q3, ⟨_, setRow_heap w b arr0 _ e0 (0, 0) m3, ?_⟩, m5⟩
            rw [← m4]; simp; omega
          · cases hob
        · rename_i e
          exact (h.heap id' ob hob).beside ⟨fun _ _ _ h => h, fun _ _ h => h⟩ hk (fun h => e h.symm) p1 (by simp [q1]) (by simp) (by simp)
      · cases hw
    · cases hw
  | im cs => simp [wrAt] at hw

def chkSt (P : Program) (o : Oper) (n : Nat) (x v : Opd) : Bool := o.dst == none &&
  (match o.op with | .store t x' v' => chkOpd x' x && chkOpd v' v && (match P.info? t with | some i => i.size == n | none => false) | _ => false)
theorem run_storeAt {t : TypeId} {i : TypeInfo} {b off : Nat} {u : Value} (hi : P.info? t = some i) (hn : u.cells.size = i.size) (hr : (storeCells ⟨b, off, none⟩ u.cells.toList).run P w = .ok () w') :
    (Instr.storeAt t (ptrTo b off) u).run P w = .ok () w' := by
  simp [Instr.storeAt, Instr.sureAddr, ptrTo, storeVar, Go.sizeOf, typeInfo, hi, hn, hr]
theorem sim_st {n : Nat} {x v : Opd} (h : Rel P gl N g s a w) (hc : chkSt P o n x v = true) (he : ev gl s (.st n x v) = some s') : Sim1 P gl N o g a w s' := by
  simp only [chkSt, Bool.and_eq_true, beq_iff_eq] at hc
  obtain ⟨hd, hop⟩ := hc
  split at hop
  · rename_i t x' v' ho
    simp only [Bool.and_eq_true] at hop
    obtain ⟨⟨hx, hv⟩, hk⟩ := hop
    split at hk
    · rename_i i hi
      simp at hk
      obtain ⟨p, e1, he⟩ := bind_some he
      obtain ⟨u, e2, he⟩ := bind_some he
      split at he
      · rename_i hb
        obtain ⟨hb1, hb2⟩ := hb
        obtain ⟨q1, q2⟩ := (evO_sound h hv e2).cells hb2
        obtain ⟨b, off, w', r1, r2, r3, r4⟩ := wrAt_sound h (adr_sound h hx e1) q1.noOwn q2 (fun i c u hc hu => by
          have := notOwn_map c (List.mem_of_getElem? hc)
          cases p with
          | bx t off => exact this.ownR
          | hp id off => exact this.ownR
          | im cs => simp [wrAt] at he) he
        have hn : (a.eval v').cells.size = i.size := by have := q1.get.1; simp at this; omega
        refine ⟨undef, w', g, .inr ⟨?_, rfl⟩, r3, ?_⟩
        · simp only [execOp, ho, Sem.run_bind, r1, run_storeAt hi hn r2, Result.andThen_ok, Sem.run_pure]
        · rw [hd]; exact r4
      · cases he
    · cases hk
  · cases hop

theorem AdrR.mono {v : Value} {p : Adr} (h : AdrR P g s a w v p) (h' : Rel P gl N g' s' a w') (hg : GhLe g g') (he : ∀ t cs, s.env.get t = some (.b cs) → s'.env.get t = some (.b cs)) : AdrR P g' s' a w' v p := by
  cases p with
  | bx t off =>
    obtain ⟨b, cs, p1, p2, p3, p4⟩ := h
    obtain ⟨b', q1, q2⟩ := h'.env _ _ (he _ _ p1)
    rw [p2] at q1; simp [ptrTo] at q1; subst q1
    exact ⟨b, cs, he _ _ p1, p2, p3, q2⟩
  | hp id off => obtain ⟨b, p1, p2⟩ := h; exact ⟨b, hg.ρ _ _ p1, p2⟩
  | im cs => obtain ⟨b, off, p1, p2⟩ := h; exact ⟨b, off, p1, p2.mono hg.γ⟩

/-- A store that hands over what a temporary owns. -/
theorem sim_stt {x : Opd} {v : Nat} (h : Rel P gl N g s a w) (hc : chkSt P o 1 x (.t v) = true) (he : ev gl s (.stt x v) = some s') : Sim1 P gl N o g a w s' := by
  simp only [chkSt, Bool.and_eq_true, beq_iff_eq] at hc
  obtain ⟨hd, hop⟩ := hc
  split at hop
  · rename_i t x' v' ho
    simp only [Bool.and_eq_true] at hop
    obtain ⟨⟨hx, hv⟩, hk⟩ := hop
    have hv' : v' = .tmp v := by unfold chkOpd at hv; split at hv <;> simp_all
    subst hv'
    split at hk
    · rename_i i hi
      simp at hk
      obtain ⟨p, e1, he⟩ := bind_some he
      split at he
      · rename_i e sz xs hvx
        obtain ⟨s1, e2, he⟩ := bind_some he
        obtain ⟨h3, h4⟩ := h.strip hvx
        rw [h3] at e2; simp at e2; subst e2
        obtain ⟨u, p1, p2, p3⟩ := h.env _ _ hvx
        have hfree : PosFree { s with env := s.env.ins v (.v (.list none sz xs)) } (.var v) :=
          ⟨fun t z ht hz => by simp at ht; subst ht; simp only [Env.get_ins] at hz; simp at hz; subst hz; exact NotOwn.none _ _, by simp, by simp, by simp, by simp, by simp⟩
        -- the owner that the address names
        have hpass : ∀ y : Owner, y ≠ .none → ∃ g', GLe g w g' w ∧ Rel P gl N g' { s with env := s.env.ins v (.v (.list none sz xs)) } a w ∧ OwnR P g' w y (.list (some e) sz xs) u := by
          intro y _
          cases hb : u.ownBlock with
          | none => exact ⟨g, GLe.refl _ _, h4, p3.free hb⟩
          | some b =>
            obtain ⟨i', z, vs, m1, m2, m3, m4, m5, m6, m6', m7, m8⟩ := p3 e sz xs rfl
            obtain ⟨n1, n2⟩ := h4.pass (.var v) y hfree (by simp) (m8 b hb).1 (by simp)
            exact ⟨_, n1, n2, p3.pass b hb⟩
        have hcell : u.cells.size = 1 ∧ u.cells.toList = [u] ∧ u.oneCell' = true := by
          obtain ⟨base, cap, rfl, _⟩ := p2.list_inv
          exact ⟨rfl, rfl, rfl⟩
        have hkeep : ∀ t cs, s.env.get t = some (.b cs) → ({ s with env := s.env.ins v (.v (.list none sz xs)) } : St).env.get t = some (.b cs) := by
          intro t cs ht
          simp only [Env.get_ins]
          have : t ≠ v := by rintro rfl; rw [hvx] at ht; simp at ht
          simp [this, ht]
        let y : Owner := match p with | .bx t off => .bc t off | .hp id off => .oc id off | .im _ => .junk
        obtain ⟨g', n1, n2, n3⟩ := hpass y (by cases p <;> simp [y])
        have hadr := (adr_sound h hx e1).mono n2 n1.toGhLe hkeep
        have hvr : VRs g' [.list (some e) sz xs] [u] := .cons _ _ _ _ (p2.mono n1.toGhLe) .nil
        obtain ⟨b, off, w', r1, r2, r3, r4⟩ := wrAt_sound n2 hadr hvr (by simp [hcell.2.2]) (fun i c u' hc hu => by
          cases i with
          | zero =>
            simp at hc hu; subst hc hu
            cases p with
            | bx t off => simpa [y] using n3
            | hp id off => simpa [y] using n3
            | im cs => simp [wrAt] at he
          | succ i => simp at hc) he
        refine ⟨undef, w', g', .inr ⟨?_, rfl⟩, n1.trans r3, ?_⟩
        · have hev : a.eval (.tmp v) = u := by simp [Act.eval, p1]
          simp only [execOp, ho, Sem.run_bind, r1, hev, run_storeAt hi (by rw [hcell.1, hk]) (by rw [hcell.2.1]; exact r2), Result.andThen_ok, Sem.run_pure]
        · rw [hd]; exact r4
      · cases he
    · cases hk
  · cases hop
end
end AM
/-! The simulation of loads that take, of literals, structs, arrays' slices, made slices. -/
namespace AM
open Go
section
variable {P : Program} {gl : Glob} {N : Nat} {g g' : Gh} {s s' : St} {a : Act} {w w' : World} {o : Oper}

theorem BlkR.strip {b : Nat} {ow : Owner} {oc : Nat → Owner} {cs : List AV} {off e sz : Nat} {xs : List AV} (h : BlkR P g w b ow oc cs) (hc : cs[off]? = some (.list (some e) sz xs)) :
    BlkR P g w b ow oc (cs.set off (.list none sz xs)) ∧ ∃ v, w.cell? ⟨b, off, none⟩ = some v ∧ VR g (.list (some e) sz xs) v ∧ OwnR P g w (oc off) (.list (some e) sz xs) v := by
  obtain ⟨arr, ty, q1, q2, q3, q4, q5⟩ := h
  obtain ⟨v, r1, r2, r3, r4⟩ := q5 off _ hc
  refine ⟨⟨arr, ty, q1, by simpa using q2, q3, q4, fun i c hi => ?_⟩, v, by rw [cell_of_row w b off arr ty (0, 0) q1]; exact r1, r3, r4⟩
  rw [List.getElem?_set] at hi
  split at hi
  · rename_i e; subst e
    split at hi
    · simp at hi; subst hi
      exact ⟨v, r1, r2, r3.noOwn, (NotOwn.none _ _).ownR⟩
    · cases hi
  · exact q5 i c hi

theorem getElem_of_rd {cs : List AV} {off : Nat} {x : AV} (e : (cs.drop off).take 1 = [x]) : cs[off]? = some x := by
  have : ((cs.drop off).take 1)[0]? = some x := by rw [e]; rfl
  simpa [List.getElem?_take, List.getElem?_drop] using this

def chkLdt (P : Program) (N : Nat) (o : Oper) (d : Nat) (x : Opd) (e sz : Nat) : Bool := chkLd P N o d x 1 false && okElem P e sz
theorem sim_ldt {d : Nat} {x : Opd} {e0 sz0 : Nat} (h : Rel P gl N g s a w) (hc : chkLdt P N o d x e0 sz0 = true) (he : ev gl s (.ldt d x e0 sz0) = some s') : Sim1 P gl N o g a w s' := by
  simp only [chkLdt, chkLd, Bool.and_eq_true] at hc
  obtain ⟨⟨hd, hop⟩, hok⟩ := hc
  split at hop
  · rename_i t x' ho
    simp only [Bool.and_eq_true] at hop
    obtain ⟨⟨hx, hsz⟩, hk⟩ := hop
    have hrun : ∀ b off v, a.eval x' = ptrTo b off → w.cell? ⟨b, off, none⟩ = some v → (execOp a.eval o).run P w = .ok (.value v) w := by
      intro b off v hv hcell
      simp only [execOp, ho, Sem.run_bind, hv]
      split at hk
      · simp at hk
      · simp at hk
      · rename_i dsc hd1 hd2 hu'
        rw [run_load_one hu' ⟨fun fs e => hd1 fs e, fun n e e' => hd2 n e e'⟩ hcell]; rfl
      · cases hk
    have hd' := hd
    simp only [dstIs, Bool.and_eq_true, beq_iff_eq, decide_eq_true_eq] at hd'
    simp only [ev] at he
    obtain ⟨p, h1, he⟩ := bind_some he
    obtain ⟨cs, h2, he⟩ := bind_some he
    split at he
    · rename_i e sz xs
      obtain ⟨s1, h3, h4⟩ := bind_some he
      have hadr := adr_sound h hx h1
      cases p with
      | bx u off =>
        obtain ⟨b, cs', p1, p2, p3, p4⟩ := hadr
        simp only [rdAt, p1] at h2
        simp only [wrAt, p1] at h3
        split at h2
        · rename_i hb
          simp at h2
          rw [if_pos (by simpa using hb)] at h3
          simp at h3; subst h3
          have hcs := getElem_of_rd h2
          obtain ⟨q1, v, q2, q3, q4⟩ := p4.strip hcs
          have hset : setCells cs' off [.list none sz xs] = cs'.set off (.list none sz xs) := rfl
          have h5 : Rel P gl N g { s with env := s.env.ins u (.b (setCells cs' off [.list none sz xs])) } a w := by
            refine ⟨Env.Sorted.ins h.sorted u _, h.size, h.defers, fun t y hy => ?_, h.heap, h.gam, h.own, h.glob, h.rho⟩
            simp only at hy ⊢
            rw [Env.get_ins] at hy
            split at hy
            · rename_i ht; subst ht; simp at hy; subst hy
              exact ⟨b, p2, by rw [hset]; exact q1⟩
            · rename_i ht
              have h6 := h.env t y hy
              cases y with
              | v y => exact h6
              | b cs => exact h6
              | a u' off' =>
                obtain ⟨⟨cs'', hu⟩, hr⟩ := h6
                refine ⟨?_, hr⟩
                rw [Env.get_ins]
                by_cases e : u' = u
                · simp [e]
                · simp [e, hu]
          have hfree : PosFree { s with env := s.env.ins u (.b (setCells cs' off [.list none sz xs])) } (.bc u off) := by
            refine ⟨by simp, fun t i cs c ht hb' hc => ?_, by simp, by simp, by simp, by simp⟩
            simp at ht; obtain ⟨rfl, rfl⟩ := ht
            simp only [Env.get_ins] at hb'; simp at hb'; subst hb'
            rw [hset] at hc
            rw [List.getElem?_set_self (by have := (List.getElem?_eq_some_iff.1 hcs).1; exact this)] at hc
            simp at hc; subst hc; exact NotOwn.none _ _
          obtain ⟨g', r1, r2⟩ := h5.passTo hfree (by simp) (by simp) hd'.2 h4 q3 q4 ⟨e, sz, xs, rfl⟩
          exact ⟨v, w, g', .inl (hrun b off v p3 q2), r1, by rw [hd'.1]; exact r2⟩
        · cases h2
      | hp id off =>
        obtain ⟨b, p1, p2⟩ := hadr
        simp only [rdAt] at h2
        split at h2
        · rename_i cs' hid
          obtain ⟨b', m1, m2⟩ := h.heap _ _ hid
          rw [p1] at m1; simp at m1; subst m1
          split at h2
          · rename_i hb
            simp at h2
            simp only [wrAt, hid] at h3
            rw [if_pos (by simpa using hb)] at h3
            simp at h3; subst h3
            have hcs := getElem_of_rd h2
            obtain ⟨q1, v, q2, q3, q4⟩ := m2.strip hcs
            have hset : setCells cs' off [.list none sz xs] = cs'.set off (.list none sz xs) := rfl
            have hidlt : id < s.heap.length := (List.getElem?_eq_some_iff.1 hid).1
            have h5 : Rel P gl N g { s with heap := s.heap.set id (.cells (setCells cs' off [.list none sz xs])) } a w := by
              refine ⟨h.sorted, h.size, h.defers, h.env, fun id' ob hob => ?_, h.gam, h.own, h.glob, fun i b hi => by simpa using h.rho i b hi⟩
              simp only at hob
              rw [List.getElem?_set] at hob
              split at hob
              · rename_i e; subst e
                simp at hob; subst hob
                exact ⟨b, p1, by rw [hset]; exact q1⟩
              · exact h.heap id' ob hob
            have hfree : PosFree { s with heap := s.heap.set id (.cells (setCells cs' off [.list none sz xs])) } (.oc id off) := by
              refine ⟨by simp, by simp, fun id' i cs c ht hb' hc => ?_, fun id' i n es ht hb' => ?_, by simp, by simp⟩
              · simp at ht; obtain ⟨rfl, rfl⟩ := ht
                simp only at hb'
                rw [List.getElem?_set_self hidlt] at hb'
                simp at hb'; subst hb'
                rw [hset] at hc
                rw [List.getElem?_set_self (by have := (List.getElem?_eq_some_iff.1 hcs).1; exact this)] at hc
                simp at hc; subst hc; exact NotOwn.none _ _
              · simp at ht; obtain ⟨rfl, rfl⟩ := ht
                simp only at hb'
                rw [List.getElem?_set_self hidlt] at hb'
                simp at hb'
            obtain ⟨g', r1, r2⟩ := h5.passTo hfree (by simp) (by simp) hd'.2 h4 q3 q4 ⟨e, sz, xs, rfl⟩
            exact ⟨v, w, g', .inl (hrun b off v p2 q2), r1, by rw [hd'.1]; exact r2⟩
          · cases h2
        · rename_i e1 cs' hid
          obtain ⟨b', kk, m1, m1', m2, m3⟩ := h.heap _ _ hid
          rw [p1] at m1; simp at m1; subst m1
          split at h2
          · rename_i hb
            simp at h2
            simp only [wrAt, hid] at h3
            rw [if_pos (by simpa using hb)] at h3
            simp at h3; subst h3
            have hcs := getElem_of_rd h2
            obtain ⟨q1, v, q2, q3, q4⟩ := m2.strip hcs
            have hset : setCells cs' off [.list none sz xs] = cs'.set off (.list none sz xs) := rfl
            have hidlt : id < s.heap.length := (List.getElem?_eq_some_iff.1 hid).1
            have h5 : Rel P gl N g { s with heap := s.heap.set id (.buf e1 (setCells cs' off [.list none sz xs])) } a w := by
              refine ⟨h.sorted, h.size, h.defers, h.env, fun id' ob hob => ?_, h.gam, h.own, h.glob, fun i b hi => by simpa using h.rho i b hi⟩
              simp only at hob
              rw [List.getElem?_set] at hob
              split at hob
              · rename_i e; subst e
                simp at hob; subst hob
                exact ⟨b, kk, p1, m1', by rw [hset]; exact q1, m3⟩
              · exact h.heap id' ob hob
            have hfree : PosFree { s with heap := s.heap.set id (.buf e1 (setCells cs' off [.list none sz xs])) } (.oc id off) := by
              refine ⟨by simp, by simp, fun id' i cs c ht hb' hc => ?_, fun id' i n es ht hb' => ?_, by simp, by simp⟩
              · simp at ht; obtain ⟨rfl, rfl⟩ := ht
                simp only at hb'
                rw [List.getElem?_set_self hidlt] at hb'
                simp at hb'; subst hb'
                rw [hset] at hc
                rw [List.getElem?_set_self (by have := (List.getElem?_eq_some_iff.1 hcs).1; exact this)] at hc
                simp at hc; subst hc; exact NotOwn.none _ _
              · simp at ht; obtain ⟨rfl, rfl⟩ := ht
                simp only at hb'
                rw [List.getElem?_set_self hidlt] at hb'
                simp at hb'
            obtain ⟨g', r1, r2⟩ := h5.passTo hfree (by simp) (by simp) hd'.2 h4 q3 q4 ⟨e, sz, xs, rfl⟩
            exact ⟨v, w, g', .inl (hrun b off v p2 q2), r1, by rw [hd'.1]; exact r2⟩
          · cases h2
        · cases h2
      | im cs' => simp [wrAt] at h3
    · rename_i z
      obtain ⟨b, off, hv, ⟨ws, q1, q2, q3, q4⟩, q5⟩ := rdAt_sound h (adr_sound h hx h1) h2
      cases q2 with
      | cons _ _ u us hu hus =>
        cases hus
        have hcell := q4 0 u (by simp)
        have hu := hu.nils_inv
        subst hu
        refine ⟨_, w, g, .inl (hrun b off _ hv (by simpa using hcell)), .refl _ _, ?_⟩
        rw [hd'.1]
        exact h.put he hd'.2 (.own _ _ _ _ (.list0 _ _ _)) (okElem_own hok g w _)
    · cases he
  · cases hop

/-- Plain data among the values. -/
theorem VR.pure1_pr {x : AV} {v : Value} (h : VR g x v) (hx : x.pure1 = true) : PR g.γ x v := by
  cases h with
  | pure _ _ h => exact h
  | own => simp [AV.pure1] at hx
  | ptr => simp [AV.pure1] at hx
  | map => simp [AV.pure1] at hx
  | sl => simp [AV.pure1] at hx
  | nilc => simp [AV.pure1] at hx
  | fn => simp [AV.pure1] at hx
  | agg => simp [AV.pure1] at hx
  | tup => simp [AV.pure1] at hx
theorem VRs.pure_prs {cs : List AV} {ws : List Value} (h : VRs g cs ws) (hc : cs.all AV.pure1 = true) (h1 : ∀ v ∈ ws, v.oneCell' = true) : PRs g.γ cs ws := by
  induction ws generalizing cs with
  | nil => cases h; exact .nil
  | cons w ws ih => cases h with
    | cons c cs _ _ hv hvs =>
      simp only [List.all_cons, Bool.and_eq_true] at hc
      exact .cons _ _ _ _ (h1 w (by simp)) (hv.pure1_pr hc.1) (ih hvs hc.2 fun v hv => h1 v (by simp [hv]))
theorem VR.pure_pr {x : AV} {v : Value} (h : VR g x v) (hx : x.pure = true) : PR g.γ x v := by
  by_cases hag : ∃ cs, x = .agg cs
  · obtain ⟨cs, rfl⟩ := hag
    obtain ⟨ws, rfl, p1, p2⟩ := h.agg_inv
    exact .agg _ _ (p1.pure_prs (by simpa [AV.pure] using hx) p2)
  · refine h.pure1_pr ?_
    cases x <;> first | exact hx | exact absurd ⟨_, rfl⟩ hag

def Gh.addI (g : Gh) (b : Nat) (arr : Array Value) : Gh := { g with γ := fun k off => if k = b then arr[off]? else g.γ k off, Ω := fun k => if k = b then .junk else g.Ω k }
/-- A new immutable block. -/
theorem Rel.allocI (h : Rel P gl N g s a w) (arr : Array Value) (ty : TypeId) :
    GLe g w (g.addI w.heap.size arr) (w.alloc (.cells arr ty)) ∧ Rel P gl N (g.addI w.heap.size arr) s a (w.alloc (.cells arr ty)) := by
  have hle : GhLe g (g.addI w.heap.size arr) := ⟨fun b off v hv => by
    have : b ≠ w.heap.size := fun e => by subst e; rw [h.gnone] at hv; cases hv
    simp [Gh.addI, this, hv], fun _ _ h => h⟩
  have hne : ∀ b, g.Ω b ≠ .none → b ≠ w.heap.size := fun b hb e => by subst e; exact hb h.onone
  have hsame : ∀ b, g.Ω b ≠ .none → (g.addI w.heap.size arr).Ω b = g.Ω b ∧ (w.alloc (.cells arr ty)).heap[b]? = w.heap[b]? ∧ ∀ o, (g.addI w.heap.size arr).γ b o = g.γ b o := fun b hb =>
    ⟨by simp [Gh.addI, hne b hb], heap_alloc_old w _ b (h.own b hb), fun _ => by simp [Gh.addI, hne b hb]⟩
  refine ⟨⟨hle, fun b hb => ?_, by rw [alloc_size]; omega, rfl, rfl⟩, h.step .none (PosFree.none s) hle (fun b hb => hsame b hb.1) (fun b off v hv => ?_) (fun b hb => ?_) h.rho⟩
  · obtain ⟨h1, h2, h3⟩ := hsame b (by rw [hb]; simp)
    exact ⟨h1.trans hb, h2, h3⟩
  · by_cases e : b = w.heap.size
    · subst e
      simp [Gh.addI] at hv
      rw [cell_of_row _ _ _ arr ty (0, 0) (heap_alloc_new w _)]; exact hv
    · simp [Gh.addI, e] at hv; exact cell_alloc _ (h.gam b off v hv)
  · by_cases e : b = w.heap.size
    · rw [alloc_size]; omega
    · simp [Gh.addI, e] at hb; have := h.own b hb; rw [alloc_size]; omega

/-- Rows of cells that stand one after the other in a list of values. -/
theorem PRc.of_list {γ : Gam} {b : Nat} : ∀ {cs : List AV} {ws : List Value} {off : Nat}, PRs γ cs ws → (∀ (i : Nat) v, ws[i]? = some v → γ b (off + i) = some v) → PRc γ b off cs
  | [], _, _, .nil, _ => .nil _ _
  | c :: cs, _, off, .cons _ _ v ws h1 h2 h3, h => .cons _ _ _ _ v (by simpa using h 0 v (by simp)) h1 h2 (PRc.of_list h3 fun i u hu => by
      have := h (i + 1) u (by simpa using hu); rw [← this]; congr 1; omega)
theorem PRr.of_rows {γ : Gam} {b sz : Nat} : ∀ {xs : List AV} {rows : List (List Value)} {off : Nat}, xs.length = rows.length →
    (∀ (i : Nat) x r, xs[i]? = some x → rows[i]? = some r → x.cells.length = sz ∧ PRs γ x.cells r ∧ r.length = sz) → (∀ (i : Nat) v, rows.flatten[i]? = some v → γ b (off + i) = some v) → PRr γ b off sz xs
  | [], _, _, _, _, _ => .nil _ _ _
  | x :: xs, [], _, h, _, _ => by simp at h
  | x :: xs, r :: rows, off, h, hr, hg => by
    obtain ⟨h1, h2, h3⟩ := hr 0 x r (by simp) (by simp)
    refine .cons _ _ _ _ _ h1 (PRc.of_list h2 fun i v hv => hg i v ?_) (PRr.of_rows (rows := rows) (by simpa using h) (fun i x r hx hr' => hr (i + 1) x r (by simpa using hx) (by simpa using hr')) fun i v hv => ?_)
    · rw [List.flatten_cons, List.getElem?_append_left (List.getElem?_eq_some_iff.1 hv).1]; exact hv
    · have := hg (sz + i) v (by rw [List.flatten_cons, List.getElem?_append_right (by omega)]; rw [← hv]; congr 1; omega)
      rw [← this]; congr 1; omega

theorem PR.cells {γ : Gam} {x : AV} {v : Value} (h : PR γ x v) : PRs γ x.cells v.cells.toList := by
  cases h with
  | agg cs ws h => simpa [AV.cells, Value.cells] using h
  | bool b => exact .cons _ _ _ _ rfl (.bool b) .nil
  | int k n => exact .cons _ _ _ _ rfl (.int k n) .nil
  | str l h => exact .cons _ _ _ _ rfl (.str l h) .nil
  | nilp => exact .cons _ _ _ _ rfl .nilp .nil
  | nilm => exact .cons _ _ _ _ rfl .nilm .nil
  | nilf => exact .cons _ _ _ _ rfl .nilf .nil
  | nili => exact .cons _ _ _ _ rfl .nili .nil
  | nils sz => exact .cons _ _ _ _ rfl (.nils sz) .nil
  | cptr b off cs h => exact .cons _ _ _ _ rfl (.cptr b off cs h) .nil
  | list0 sz base cap => exact .cons _ _ _ _ rfl (.list0 sz base cap) .nil
  | list b off cap sz xs h1 h2 h3 => exact .cons _ _ _ _ rfl (.list b off cap sz xs h1 h2 h3) .nil

/-- The cells of a literal's elements, laid one after the other. -/
theorem foldl_set (off : Nat) : ∀ (us : List Value) (k : Nat) (A : Array Value), off + k + us.length ≤ A.size →
    ((us.zipIdx k).foldl (fun cs (c, j) => cs.setIfInBounds (off + j) c) A).toList = A.toList.take (off + k) ++ us ++ A.toList.drop (off + k + us.length)
  | [], k, A, _ => by simp
  | u :: us, k, A, h => by
    simp only [List.length_cons] at h
    rw [List.zipIdx_cons, List.foldl_cons, foldl_set off us (k + 1) _ (by simp; omega)]
    have e := list_seg_step A.toList (off + k) u us (by simp; omega)
    simpa [Array.toList_setIfInBounds, Nat.add_assoc] using e
theorem fill_rows (size : Nat) : ∀ (vs : List Value) (k : Nat) (A : Array Value), (∀ v ∈ vs, v.cells.size = size) → A.size = (k + vs.length) * size →
    ∃ B, Instr.fill (fun i => some (i * size, size)) A ((vs.zipIdx k).map fun (v, i) => (i, v)) = some B ∧ B.toList = A.toList.take (k * size) ++ (vs.map (·.cells.toList)).flatten
  | [], k, A, _, h => ⟨A, by simp [Instr.fill], by simp at h ⊢; rw [List.take_of_length_le (by simp; omega)]⟩
  | v :: vs, k, A, hv, h => by
    have hsz := hv v (by simp)
    have hle : k * size + size ≤ A.size := by
      rw [h]; simp only [List.length_cons]
      have : (k + (vs.length + 1)) * size = k * size + size + vs.length * size := by rw [Nat.add_mul, Nat.add_mul]; omega
      omega
    have hf := foldl_set (k * size) v.cells.toList 0 A (by simp; omega)
    simp only [Nat.add_zero] at hf
    have hA : (v.cells.zipIdx.foldl (fun cs (c, j) => cs.setIfInBounds (k * size + j) c) A) = (v.cells.toList.zipIdx.foldl (fun cs (c, j) => cs.setIfInBounds (k * size + j) c) A) := by
      rw [← Array.foldl_toList]; simp
    have hlB : (v.cells.toList.zipIdx.foldl (fun cs (c, j) => cs.setIfInBounds (k * size + j) c) A).size = A.size := by
      rw [← Array.length_toList, hf]; simp [hsz]; omega
    have hmul : (k + 1 + vs.length) * size = (k + (v :: vs).length) * size := by congr 1; simp; omega
    obtain ⟨B, h1, h2⟩ := fill_rows size vs (k + 1) (v.cells.zipIdx.foldl (fun cs (c, j) => cs.setIfInBounds (k * size + j) c) A) (fun u hu => hv u (by simp [hu])) (by
      rw [hA, hlB, h, hmul])
    refine ⟨B, ?_, ?_⟩
    · simp only [List.zipIdx_cons, List.map_cons, Instr.fill]
      rw [if_neg (by simp [hsz]; omega)]
      exact h1
    · rw [h2, hA, hf, List.take_left' (by simp [hsz, Nat.add_mul]; omega)]
      simp only [List.map_cons, List.flatten_cons, List.append_assoc]
end
end AM
/-! The simulation of literals, structs, arrays' slices, made slices, appends. -/
namespace AM
open Go
section
variable {P : Program} {gl : Glob} {N : Nat} {g g' : Gh} {s s' : St} {a : Act} {w w' : World} {o : Oper}

/-- A slice type's element: its number, cells. -/
def elemOk (P : Program) (t e sz : Nat) : Bool :=
  match P.underlying t with
  | some (.slice e') => e' == e && okElem P e sz
  | _ => false
theorem okElem_spec {e sz : Nat} (h : okElem P e sz = true) : ∃ i z, P.info? e = some i ∧ i.size = sz ∧ 0 < sz ∧ i.zero = some z ∧ z.cells.size = sz ∧ i.bytes ≤ 128 := by
  unfold okElem at h
  split at h
  · rename_i i hi
    simp only [Bool.and_eq_true, beq_iff_eq, decide_eq_true_eq] at h
    obtain ⟨⟨⟨h1, h2⟩, h3⟩, h4⟩ := h
    split at h3
    · rename_i z hz
      simp at h3
      exact ⟨i, z, hi, h1, h2, hz, h3, h4⟩
    · cases h3
  · cases h
theorem elemOk_spec {t e sz : Nat} (h : elemOk P t e sz = true) : P.underlying t = some (.slice e) ∧ okElem P e sz = true := by
  unfold elemOk at h
  split at h
  · simp at h; obtain ⟨rfl, h⟩ := h; exact ⟨by assumption, h⟩
  · cases h

def seqParts (n : Nat) (ps : List (Nat × Operand)) : Bool := (ps.map (·.1)) == List.range n
def litOk (P : Program) (t sz : Nat) : Bool :=
  match P.underlying t with
  | some (.slice e) => okElem P e sz && decide (sz ≤ 1000)
  | _ => false
def chkLit (P : Program) (N : Nat) (o : Oper) (d sz : Nat) (xs : List Opd) : Bool := dstIs N o d &&
  (match o.op with | .buildSlice t n ps => n == xs.length && seqParts n ps.toList && chkOpds (ps.toList.map (·.2)) xs && litOk P t sz | _ => false)

theorem seqParts_spec {n : Nat} {ps : List (Nat × Operand)} (h : seqParts n ps = true) (f : Operand → Value) :
    ps.map (fun (i, x) => (i, f x)) = ((ps.map (·.2)).map f).zipIdx.map fun (v, i) => (i, v) := by
  simp only [seqParts, beq_iff_eq] at h
  apply List.ext_getElem?
  intro i
  have hi : (ps.map (·.1))[i]? = (List.range n)[i]? := by rw [h]
  simp only [List.getElem?_map, List.getElem?_zipIdx, Nat.zero_add] at hi ⊢
  cases hp : ps[i]? with
  | none => simp
  | some p =>
    simp only [hp, Option.map_some] at hi ⊢
    have hlt : i < n := by
      have h1 := (List.getElem?_eq_some_iff.1 hp).1
      have h2 : (ps.map (·.1)).length = n := by rw [h]; simp
      simp at h2; omega
    simp [hlt] at hi
    simp [hi]

theorem run_buildSlice {t e : TypeId} {i : TypeInfo} {z : Value} {vs : List Value} (hu : P.underlying t = some (.slice e)) (hi : P.info? e = some i) (hz : i.zero = some z)
    (hs : 0 < i.size) (hv : ∀ v ∈ vs, v.cells.size = i.size) (hn : vs.length * i.size ≤ 2 ^ 24) :
    (Instr.buildSlice t vs.length (vs.zipIdx.map fun (v, i) => (i, v)).toArray).run P w =
      .ok (.slice (some ⟨w.heap.size, 0, none⟩) vs.length vs.length) (w.alloc (.cells (vs.map (·.cells.toList)).flatten.toArray e)) := by
  have hA : ((Array.range (vs.length * i.size)).map (z.cells[· % z.cells.size]!)).size = (0 + vs.length) * i.size := by simp
  obtain ⟨B, h1, h2⟩ := fill_rows i.size vs 0 _ hv hA
  simp only [Nat.zero_mul, List.take_zero, List.nil_append] at h2
  have hB : B = (vs.map (·.cells.toList)).flatten.toArray := by apply Array.ext'; simpa using h2
  have hnl : ¬ (vs.length * i.size > 2 ^ 24) := by omega
  simp only [Instr.buildSlice, Sem.run_bind, run_underlying hu, Result.andThen_ok, Go.sizeOf, typeInfo, run_program, hi, Sem.run_pure, Sem.run_ite, hnl, if_false]
  by_cases h0 : vs.length * i.size = 0
  · have hvs : vs = [] := by
      rcases Nat.mul_eq_zero.1 h0 with h | h
      · exact List.eq_nil_of_length_eq_zero h
      · omega
    subst hvs
    have e0 : Array.range 0 = #[] := rfl
    simp [newRow, newObj, Sem.run, Instr.fill, e0]
  · rw [if_neg h0]
    have hl : (List.map (fun (x : Value × Nat) => (x.2, x.1)) vs.zipIdx) = vs.zipIdx.map fun (v, i) => (i, v) := rfl
    simp only [zeroValue, typeInfo, Sem.run_bind, run_program, hi, Result.andThen_ok, Sem.run_pure, hz]
    simp only [hl, h1]
    simp [newRow, newObj, Sem.run, hB]

theorem sim_lit {d sz : Nat} {xs : List Opd} (h : Rel P gl N g s a w) (hc : chkLit P N o d sz xs = true) (he : ev gl s (.lit d sz xs) = some s') : Sim1 P gl N o g a w s' := by
  simp only [chkLit, Bool.and_eq_true] at hc
  obtain ⟨hd, hop⟩ := hc
  split at hop
  · rename_i t n ps ho
    simp only [Bool.and_eq_true, beq_iff_eq] at hop
    obtain ⟨⟨⟨rfl, hseq⟩, hxs⟩, hk⟩ := hop
    unfold litOk at hk
    split at hk
    · rename_i e hu
      simp only [Bool.and_eq_true, decide_eq_true_eq] at hk
      obtain ⟨hk1, hk2⟩ := hk
      obtain ⟨i, z, r1, r2, r3, r4, r5, r6⟩ := okElem_spec hk1
      obtain ⟨vs, e1, e2⟩ := bind_some he
      split at e2
      · rename_i hb
        simp only [Bool.and_eq_true, decide_eq_true_eq, List.all_eq_true, beq_iff_eq] at hb
        obtain ⟨hb1, hb2⟩ := hb
        have hvr := evOs_sound h hxs e1
        have hps : (ps.map fun (i, x) => (i, a.eval x)) = (((ps.toList.map (·.2)).map a.eval).zipIdx.map fun (v, i) => (i, v)).toArray := by
          rw [← seqParts_spec hseq a.eval]; apply Array.ext'; simp
        have hl2 : xs.length = ((ps.toList.map (·.2)).map a.eval).length := by
          simp only [chkOpds, Bool.and_eq_true, beq_iff_eq] at hxs; rw [List.length_map]; exact hxs.1.symm
        generalize (ps.toList.map (·.2)).map a.eval = us at hvr hps hl2
        have hget := hvr.get
        -- the concrete elements
        have hpr : ∀ (k : Nat) x v, vs[k]? = some x → us[k]? = some v → PR g.γ x.noOwn v ∧ x.noOwn.cells.length = sz ∧ v.cells.size = sz := by
          intro k x v hx hv
          obtain ⟨hp1, hp2⟩ := hb1 x (List.mem_of_getElem? hx)
          obtain ⟨v', q1, q2⟩ := hget.2 k x hx
          rw [hv] at q1; simp at q1; subst q1
          have hp := q2.noOwn.pure_pr hp1
          have hcl : x.noOwn.cells.length = sz := by
            have : x.noOwn.cells.length = x.cells.length := by cases x <;> rfl
            rw [this]; exact hp2
          refine ⟨hp, hcl, ?_⟩
          have hpc := hp.cells
          have : ∀ {cs : List AV} {ws : List Value}, PRs g.γ cs ws → ws.length = cs.length := by
            intro cs ws hh
            induction ws generalizing cs with
            | nil => cases hh; rfl
            | cons w ws ih => cases hh with | cons _ _ _ _ _ _ h3 => simp [ih h3]
          have := this hpc
          simp at this; omega
        have hvsz : ∀ v ∈ us, v.cells.size = i.size := by
          intro v hv
          obtain ⟨k, hk', hkv⟩ := List.getElem_of_mem hv
          have hkl : k < vs.length := by have := hget.1; omega
          have := (hpr k vs[k] v (by simp [hkl]) (by rw [List.getElem?_eq_getElem hk', hkv])).2.2
          omega
        have hrun := run_buildSlice (P := P) (w := w) hu r1 r4 (by omega) hvsz (by
          have h1 : us.length ≤ 1000 := by rw [hget.1]; exact hb2
          calc _ ≤ 1000 * 1000 := Nat.mul_le_mul h1 (by omega)
            _ ≤ 2 ^ 24 := by decide)
        obtain ⟨q1, q2⟩ := h.allocI (us.map (·.cells.toList)).flatten.toArray e
        refine ⟨.slice (some ⟨w.heap.size, 0, none⟩) us.length us.length, _, _, .inl ?_, q1, ?_⟩
        · simp only [execOp, ho, Sem.run_bind]
          rw [hps, hl2, hrun]; rfl
        · simp only [dstIs, Bool.and_eq_true, beq_iff_eq, decide_eq_true_eq] at hd
          rw [hd.1]
          refine q2.put e2 hd.2 (.pure _ _ ?_) (NotOwn.none _ _).ownR
          refine .list_of (by rw [List.length_map]; exact hget.1) (by simp; unfold M; omega) (by rw [List.length_map]; omega) ?_
          refine PRr.of_rows (rows := us.map (·.cells.toList)) (by rw [List.length_map, List.length_map]; exact hget.1.symm) (fun k x r hx hr => ?_) fun k v hv => by simpa [Gh.addI] using hv
          rw [List.getElem?_map] at hx hr
          cases hxk : vs[k]? with
          | none => simp [hxk] at hx
          | some x' =>
            cases hvk : us[k]? with
            | none => simp [hvk] at hr
            | some v' =>
              simp [hxk] at hx; simp only [hvk, Option.map_some, Option.some.injEq] at hr; subst hx hr
              obtain ⟨m1, m2, m3⟩ := hpr k x' v' hxk hvk
              exact ⟨m2, (m1.mono q1.γ).cells, by simpa using m3⟩
      · cases e2
    · cases hk
  · cases hop
end
end AM
