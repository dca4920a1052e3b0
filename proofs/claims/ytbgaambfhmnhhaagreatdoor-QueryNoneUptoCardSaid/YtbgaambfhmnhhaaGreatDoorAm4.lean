/- An abstract machine for the program of the seat, and what of the given program it does, part 5 of 16. Conditions: none. -/
import Derived.Test.YtbgaambfhmnhhaaGreatDoorAm3
import Derived.Laws.AppendOwnNone
/-! The simulation of structs, arrays' slices, made slices, appends. -/
namespace AM
open Go
section
variable {P : Program} {gl : Glob} {N : Nat} {g g' : Gh} {s s' : St} {a : Act} {w w' : World} {o : Oper}

theorem run_mapM_list {α β : Type} {f : α → Sem β} {h : α → β} : ∀ {xs : List α}, (∀ x ∈ xs, (f x).run P w = .ok (h x) w) → (xs.mapM f).run P w = .ok (xs.map h) w
  | [], _ => by simp
  | x :: xs, hx => by
    have h1 := hx x (by simp)
    have h2 := run_mapM_list (xs := xs) fun y hy => hx y (by simp [hy])
    simp only [List.mapM_cons, Sem.run_bind, h1, Result.andThen_ok, h2, Sem.run_pure, List.map_cons]
theorem run_mapM {α β : Type} {f : α → Sem β} {h : α → β} {xs : Array α} (hx : ∀ x ∈ xs.toList, (f x).run P w = .ok (h x) w) : (xs.mapM f).run P w = .ok (xs.map h) w := by
  rw [Array.mapM_eq_mapM_toList, Sem.run_map, run_mapM_list hx]
  simp only [Result.andThen_ok]
  congr 1
  apply Array.ext'; simp

theorem VRs.append {xs ys : List AV} {us vs : List Value} (h : VRs g xs us) (h' : VRs g ys vs) : VRs g (xs ++ ys) (us ++ vs) := by
  induction us generalizing xs with
  | nil => cases h; exact h'
  | cons u us ih => cases h with | cons _ _ _ _ h1 h2 => exact .cons _ _ _ _ h1 (ih h2)
theorem VRs.take {xs : List AV} {us : List Value} (h : VRs g xs us) (n : Nat) : VRs g (xs.take n) (us.take n) := by
  induction us generalizing xs n with
  | nil => cases h; simpa using VRs.nil
  | cons u us ih => cases h with
    | cons _ _ _ _ h1 h2 => cases n with
      | zero => exact .nil
      | succ n => exact .cons _ _ _ _ h1 (ih h2 n)
theorem VRs.drop {xs : List AV} {us : List Value} (h : VRs g xs us) (n : Nat) : VRs g (xs.drop n) (us.drop n) := by
  induction us generalizing xs n with
  | nil => cases h; simpa using VRs.nil
  | cons u us ih => cases h with
    | cons _ _ _ _ h1 h2 => cases n with
      | zero => exact .cons _ _ _ _ h1 h2
      | succ n => exact ih h2 n

def partOk (P : Program) (fs : Array Field) (i off n : Nat) : Bool :=
  match fs[i]? with
  | some f => f.offset == off && (match P.info? f.type with | some j => j.size == n | none => false)
  | none => false
def partsOk (P : Program) (fs : Array Field) : List (Nat × Operand) → List (Nat × Nat × Opd) → Bool
  | [], [] => true
  | (i, x') :: r, (off, n, x) :: r' => partOk P fs i off n && chkOpd x' x && partsOk P fs r r'
  | _, _ => false
def structOk (P : Program) (t : TypeId) (ps : List (Nat × Operand)) (parts : List (Nat × Nat × Opd)) : Bool :=
  match P.underlying t with
  | some (.struct fs) => fs.toList.all (fun f => (P.info? f.type).isSome) && partsOk P fs ps parts
  | _ => false
/-- The parts of an array. -/
def arrParts (sz : Nat) : List (Nat × Operand) → List (Nat × Nat × Opd) → Bool
  | [], [] => true
  | (i, x') :: r, (off, n, x) :: r' => off == i * sz && n == sz && chkOpd x' x && arrParts sz r r'
  | _, _ => false
def arrBOk (P : Program) (t : TypeId) (ps : List (Nat × Operand)) (parts : List (Nat × Nat × Opd)) : Bool :=
  match P.underlying t with
  | some (.array _ e) => (match P.info? e with | some i => arrParts i.size ps parts | none => false)
  | _ => false
def chkBuild (P : Program) (N : Nat) (o : Oper) (d : Nat) (z : List AV) (parts : List (Nat × Nat × Opd)) : Bool := dstIs N o d &&
  (match o.op with | .build t ps => zeroOk P t z && (structOk P t ps.toList parts || arrBOk P t ps.toList parts) | _ => false)

theorem fill_sound (h : Rel P gl N g s a w) (fs : Array Field) (places : Array (Nat × Nat)) (hpl : ∀ (i : Nat) f, fs[i]? = some f → places[i]? = some (f.offset, P.cellsOf f.type)) :
    ∀ (parts : List (Nat × Nat × Opd)) (ps : List (Nat × Operand)) (cs cs' : List AV) (A : Array Value), partsOk P fs ps parts = true → fillParts gl s.env cs parts = some cs' → VRs g cs A.toList → (∀ v ∈ A.toList, v.oneCell' = true) →
      ∃ B, Instr.fill (places[·]?) A (ps.map fun (i, x) => (i, a.eval x)) = some B ∧ VRs g cs' B.toList ∧ ∀ v ∈ B.toList, v.oneCell' = true
  | [], ps, cs, cs', A, hp, hf, hv, h1 => by
    cases ps with
    | cons => simp [partsOk] at hp
    | nil => simp [fillParts] at hf; subst hf; exact ⟨A, rfl, hv, h1⟩
  | (off, n, x) :: parts, ps, cs, cs', A, hp, hf, hv, h1 => by
    cases ps with
    | nil => simp [partsOk] at hp
    | cons p ps =>
      obtain ⟨i, x'⟩ := p
      simp only [partsOk, Bool.and_eq_true] at hp
      obtain ⟨⟨hp1, hp2⟩, hp3⟩ := hp
      unfold partOk at hp1
      split at hp1
      · rename_i f hfi
        simp only [Bool.and_eq_true, beq_iff_eq] at hp1
        obtain ⟨rfl, hp1⟩ := hp1
        split at hp1
        · rename_i j hj
          simp at hp1
          have hplace := hpl i f hfi
          have hcells : P.cellsOf f.type = n := by simp [Program.cellsOf, hj, hp1]
          rw [hcells] at hplace
          simp only [fillParts] at hf
          split at hf
          · rename_i u hu
            split at hf
            · rename_i hb
              obtain ⟨hb1, hb2, hb3⟩ := hb
              obtain ⟨q1, q2⟩ := (evO_sound h hp2 hu).cells hb3
              have hlA : A.toList.length = cs.length := hv.get.1
              have hlu : (a.eval x').cells.size = n := by have := q1.get.1; simp at this; omega
              have hfold := foldl_set f.offset (a.eval x').cells.toList 0 A (by simp at hlA ⊢; omega)
              simp only [Nat.add_zero] at hfold
              have hA : ((a.eval x').cells.zipIdx.foldl (fun cs (c, j) => cs.setIfInBounds (f.offset + j) c) A) = ((a.eval x').cells.toList.zipIdx.foldl (fun cs (c, j) => cs.setIfInBounds (f.offset + j) c) A) := by
                rw [← Array.foldl_toList]; simp
              have hlc : (u.cells.map AV.noOwn).length = n := by simpa using hb1
              obtain ⟨B, r1, r2, r3⟩ := fill_sound h fs places hpl parts ps _ cs' ((a.eval x').cells.zipIdx.foldl (fun cs (c, j) => cs.setIfInBounds (f.offset + j) c) A) hp3 hf (by
                rw [hA, hfold, setCells_eq _ _ _ (by rw [hlc]; exact hb2), hlc]
                have : (a.eval x').cells.toList.length = n := by simpa using hlu
                rw [this]
                exact ((hv.take _).append q1.noOwn).append (hv.drop _)) (by
                rw [hA, hfold]
                intro v hv'
                rcases List.mem_append.1 hv' with hv' | hv'
                · rcases List.mem_append.1 hv' with hv' | hv'
                  · exact h1 v (List.mem_of_mem_take hv')
                  · exact q2 v hv'
                · exact h1 v (List.mem_of_mem_drop hv'))
              refine ⟨B, ?_, r2, r3⟩
              simp only [List.map_cons, Instr.fill, hplace]
              rw [if_neg (by simp [hlu]; simp at hlA; omega)]
              exact r1
            · cases hf
          · cases hf
        · cases hp1
      · cases hp1

theorem fill_arr (h : Rel P gl N g s a w) (sz : Nat) : ∀ (parts : List (Nat × Nat × Opd)) (ps : List (Nat × Operand)) (cs cs' : List AV) (A : Array Value), arrParts sz ps parts = true → fillParts gl s.env cs parts = some cs' → VRs g cs A.toList → (∀ v ∈ A.toList, v.oneCell' = true) →
      ∃ B, Instr.fill (fun i => some (i * sz, sz)) A (ps.map fun (i, x) => (i, a.eval x)) = some B ∧ VRs g cs' B.toList ∧ ∀ v ∈ B.toList, v.oneCell' = true
  | [], ps, cs, cs', A, hp, hf, hv, h1 => by
    cases ps with
    | cons => simp [arrParts] at hp
    | nil => simp [fillParts] at hf; subst hf; exact ⟨A, rfl, hv, h1⟩
  | (off, n, x) :: parts, ps, cs, cs', A, hp, hf, hv, h1 => by
    cases ps with
    | nil => simp [arrParts] at hp
    | cons p ps =>
      obtain ⟨i, x'⟩ := p
      simp only [arrParts, Bool.and_eq_true, beq_iff_eq] at hp
      obtain ⟨⟨⟨rfl, rfl⟩, hp2⟩, hp3⟩ := hp
      simp only [fillParts] at hf
      split at hf
      · rename_i u hu
        split at hf
        · rename_i hb
          obtain ⟨hb1, hb2, hb3⟩ := hb
          obtain ⟨q1, q2⟩ := (evO_sound h hp2 hu).cells hb3
          have hlA : A.toList.length = cs.length := hv.get.1
          have hlu : (a.eval x').cells.size = n := by have := q1.get.1; simp at this; omega
          have hfold := foldl_set (i * n) (a.eval x').cells.toList 0 A (by simp at hlA ⊢; omega)
          simp only [Nat.add_zero] at hfold
          have hA : ((a.eval x').cells.zipIdx.foldl (fun cs (c, j) => cs.setIfInBounds (i * n + j) c) A) = ((a.eval x').cells.toList.zipIdx.foldl (fun cs (c, j) => cs.setIfInBounds (i * n + j) c) A) := by
            rw [← Array.foldl_toList]; simp
          have hlc : (u.cells.map AV.noOwn).length = n := by simpa using hb1
          obtain ⟨B, r1, r2, r3⟩ := fill_arr h n parts ps _ cs' ((a.eval x').cells.zipIdx.foldl (fun cs (c, j) => cs.setIfInBounds (i * n + j) c) A) hp3 hf (by
            rw [hA, hfold, setCells_eq _ _ _ (by rw [hlc]; exact hb2), hlc]
            have : (a.eval x').cells.toList.length = n := by simpa using hlu
            rw [this]
            exact ((hv.take _).append q1.noOwn).append (hv.drop _)) (by
            rw [hA, hfold]
            intro v hv'
            rcases List.mem_append.1 hv' with hv' | hv'
            · rcases List.mem_append.1 hv' with hv' | hv'
              · exact h1 v (List.mem_of_mem_take hv')
              · exact q2 v hv'
            · exact h1 v (List.mem_of_mem_drop hv'))
          refine ⟨B, ?_, r2, r3⟩
          simp only [List.map_cons, Instr.fill]
          rw [if_neg (by simp [hlu]; simp at hlA; omega)]
          exact r1
        · cases hf
      · cases hf
theorem sim_build {d : Nat} {z : List AV} {parts : List (Nat × Nat × Opd)} (h : Rel P gl N g s a w) (hc : chkBuild P N o d z parts = true) (he : ev gl s (.build d z parts) = some s') : Sim1 P gl N o g a w s' := by
  simp only [chkBuild, Bool.and_eq_true] at hc
  obtain ⟨hd, hop⟩ := hc
  split at hop
  · rename_i t ps ho
    simp only [Bool.and_eq_true] at hop
    obtain ⟨hz, hk⟩ := hop
    obtain ⟨i, zv, p1, p2, p3, p4, p5⟩ := zeroOk_spec (g := g) hz
    rcases Bool.or_eq_true _ _ ▸ hk with hk | hk
    rotate_left
    · unfold arrBOk at hk
      split at hk
      · rename_i m e hu
        split at hk
        · rename_i j hj
          obtain ⟨cs, e1, e2⟩ := bind_some he
          obtain ⟨B, q1, q2, q3⟩ := fill_arr h j.size parts ps.toList z cs zv.cells hk e1 p3 p4
          refine .value h hd e2 (v := .agg B) ?_ (by have := VR.agg cs B.toList q2 q3; simpa using this) (fun _ _ _ h => by simp at h)
          have hps : (ps.map fun (i, x) => (i, a.eval x)).toList = ps.toList.map fun (i, x) => (i, a.eval x) := by simp
          simp only [execOp, ho, Sem.run_bind, Instr.build, zeroValue, typeInfo, run_program, p1, Result.andThen_ok, Sem.run_pure, p2, run_underlying hu, Go.sizeOf, hj, hps, q1]
        · cases hk
      · cases hk
    unfold structOk at hk
    split at hk
    · rename_i fs hu
      simp only [Bool.and_eq_true, List.all_eq_true] at hk
      obtain ⟨hk1, hk2⟩ := hk
      obtain ⟨cs, e1, e2⟩ := bind_some he
      have hmap : (fs.mapM fun f => do pure (f.offset, ← Go.sizeOf f.type) : Sem (Array (Nat × Nat))).run P w = .ok (fs.map fun f => (f.offset, P.cellsOf f.type)) w := by
        refine run_mapM fun f hf => ?_
        obtain ⟨j, hj⟩ := Option.isSome_iff_exists.1 (hk1 f hf)
        simp [Go.sizeOf, typeInfo, hj, Program.cellsOf]
      obtain ⟨B, q1, q2, q3⟩ := fill_sound h fs (fs.map fun f => (f.offset, P.cellsOf f.type)) (fun i f hf => by simp [hf]) parts ps.toList z cs zv.cells hk2 e1 p3 p4
      refine .value h hd e2 (v := .agg B) ?_ (by have := VR.agg cs B.toList q2 q3; simpa using this) (fun _ _ _ h => by simp at h)
      have hps : (ps.map fun (i, x) => (i, a.eval x)).toList = ps.toList.map fun (i, x) => (i, a.eval x) := by simp
      simp only [execOp, ho, Sem.run_bind, Instr.build, zeroValue, typeInfo, run_program, p1, Result.andThen_ok, Sem.run_pure, p2, run_underlying hu, hmap, hps, q1]
    · cases hk
  · cases hop

def chkMkself (P : Program) (N : Nat) (o : Oper) (d : Nat) (c : Opd) (e sz : Nat) : Bool := dstIs N o d &&
  (match o.op with | .makeSlice t (.const (.int .i64 0)) c' => chkOpd c' c && elemOk P t e sz | _ => false)
theorem wrap_small {n : Int} (h0 : 0 ≤ n) (h1 : n ≤ M) : IntKind.i64.wrap n = n := by
  unfold M at h1
  have : IntKind.i64.wrap n = n := by
    simp [IntKind.wrap, IntKind.bits, IntKind.signed]
    omega
  exact this
theorem run_makeSlice {t e : TypeId} {i : TypeInfo} {z : Value} {k : IntKind} {n : Int} (hu : P.underlying t = some (.slice e)) (hi : P.info? e = some i) (hz : i.zero = some z)
    (hb : i.bytes ≤ 128) (h0 : 0 ≤ n) (h1 : n ≤ M) :
    ∃ arr : Array Value, arr.size = n.toNat * i.size ∧ (Instr.makeSlice t (.int .i64 0) (.int k n)).run P w = .ok (.slice (some ⟨w.heap.size, 0, none⟩) 0 n.toNat) (w.alloc (.cells arr e)) := by
  refine ⟨(Array.range (n.toNat * i.size)).map ((if n.toNat * i.size = 0 then #[] else z.cells)[· % (if n.toNat * i.size = 0 then #[] else z.cells).size]!), by simp, ?_⟩
  have hw := wrap_small h0 h1
  have hw0 : IntKind.i64.wrap 0 = 0 := by decide
  have hM : (M : Int) = 1099511627776 := rfl
  have hbn : ((i.bytes : Nat) : Int) * n ≤ 128 * 1099511627776 := by
    have h2 : ((i.bytes : Nat) : Int) * n ≤ 128 * n := Int.mul_le_mul_of_nonneg_right (by omega) h0
    omega
  have h3 : ¬ (n < 0 ∨ ((i.bytes : Nat) : Int) * n > 2 ^ 48) := by
    rintro (h | h)
    · omega
    · have : (2 : Int) ^ 48 = 281474976710656 := by decide
      rw [this] at h; omega
  have h4 : n.toNat * i.bytes ≤ roomBytes := by
    have : ((n.toNat * i.bytes : Nat) : Int) = ((i.bytes : Nat) : Int) * n := by rw [Int.natCast_mul, Int.toNat_of_nonneg h0, Int.mul_comm]
    have h5 : roomBytes = 140737488355328 := by decide
    omega
  have h6 : ¬ (n < 0) := by omega
  have h7 : ¬ (((i.bytes : Nat) : Int) * n > 2 ^ 48) := fun h => h3 (.inr h)
  simp only [Instr.makeSlice, Sem.run_bind, run_underlying hu, Result.andThen_ok, asInt, asIntOf, Sem.run_pure, typeInfo, run_program, hi, hw, hw0]
  simp only [h6, h7, decide_false, Bool.or_false, Bool.false_eq_true, if_false, Int.lt_irrefl, Bool.false_or]
  by_cases hn0 : n.toNat * i.size = 0
  · simp [askRoom, show ¬ n.toNat * i.bytes > roomBytes by omega, Go.sizeOf, typeInfo, hi, hn0, newRow, newObj, Sem.run]
  · simp [askRoom, show ¬ n.toNat * i.bytes > roomBytes by omega, Go.sizeOf, typeInfo, hi, hn0, newRow, newObj, Sem.run, zeroValue, hz]
end
end AM
/-! The simulation of made slices and appends. -/
namespace AM
open Go
section
variable {P : Program} {gl : Glob} {N : Nat} {g g' : Gh} {s s' : St} {a : Act} {w w' : World} {o : Oper}

theorem sim_mkself {d e sz : Nat} {c : Opd} (h : Rel P gl N g s a w) (hc : chkMkself P N o d c e sz = true) (he : ev gl s (.mkself d c e sz) = some s') : Sim1 P gl N o g a w s' := by
  simp only [chkMkself, Bool.and_eq_true] at hc
  obtain ⟨hd, hop⟩ := hc
  split at hop
  · rename_i t c' ho
    simp only [Bool.and_eq_true] at hop
    obtain ⟨hx, hk⟩ := hop
    obtain ⟨hu, hk⟩ := elemOk_spec hk
    obtain ⟨i, z, r1, r2, r3, r4, r5, r6⟩ := okElem_spec hk
    simp only [ev] at he
    split at he
    · rename_i k n hn
      split at he
      · rename_i hb
        have hv := (evO_sound h hx hn).int_inv
        obtain ⟨arr, m1, m2⟩ := run_makeSlice (P := P) (w := w) (k := k) hu r1 r4 r6 hb.1 hb.2
        simp only [dstIs, Bool.and_eq_true, beq_iff_eq, decide_eq_true_eq] at hd
        obtain ⟨q1, q2⟩ := h.alloc (.cells arr e) (.var d)
        refine ⟨.slice (some ⟨w.heap.size, 0, none⟩) 0 n.toNat, _, _, .inl ?_, q1, ?_⟩
        · have h0 : a.eval (.const (.int .i64 0)) = .int .i64 0 := rfl
          simp only [execOp, ho, Sem.run_bind, hv, h0, m2]; rfl
        · rw [hd.1]
          refine q2.put he hd.2 (.own _ _ _ _ (.list0 _ _ _)) ?_
          intro e' sz' xs hx'
          simp at hx'; obtain ⟨rfl, rfl, rfl⟩ := hx'
          refine ⟨i, z, [], r1, r2, r3, r4, r5, r6, by simp, World.ownsRow_made w arr n.toNat (Nat.zero_le _) (by have := hb.2; unfold M at this; unfold maxLen; omega) (by rw [m1, r2]), fun b hb' => ?_⟩
          simp [Value.ownBlock] at hb'; subst hb'
          exact ⟨by simp [Gh.setO], .nil _ _ _, fun off _ => h.gnone off⟩
      · cases he
    · cases he
  · cases hop

/-- An append that has something to append: where the result lies. -/
theorem run_app {t ty e : TypeId} {i : TypeInfo} {z : Value} (hu : P.underlying t = some (.slice e)) (hi : P.info? e = some i) (hz : i.zero = some z) (hzs : z.cells.size = i.size)
    {v : Value} {n : Nat} {xs : List Value} (hown : w.ownsRow 0 e i.size v n xs) {ad : Addr} {m c : Nat} {news : List Value} (hl : news.length = m * i.size)
    (hnews : ∀ j u, news[j]? = some u → w.cell? (ad.add j) = some u) (h1 : ∀ u ∈ news, u.oneCell' = true) (hm : 0 < m) (h63 : n + m ≤ M) (hb : i.bytes ≤ 128) :
    ∃ v' w', (Builtin.append_ #[t, t] ty #[v, .slice (some ad) m c]).run P w = .ok v' w' ∧ w'.ownsRow 0 e i.size v' (n + m) (xs ++ news) ∧ w.heap.size ≤ w'.heap.size ∧
      ((v'.ownBlock = v.ownBlock ∧ v.ownBlock ≠ none ∧ ∀ k, some k ≠ v.ownBlock → w'.heap[k]? = w.heap[k]?) ∨ (v'.ownBlock = some w.heap.size ∧ w.heap.size < w'.heap.size ∧ ∀ k, k < w.heap.size → w'.heap[k]? = w.heap[k]?)) ∧ ((w'.os, w'.tape) = (w.os, w.tape) ∧ w'.output = w.output) := by
  unfold M at h63
  have hbytes : (n + m) * i.bytes ≤ 140737488355328 := by
    calc (n + m) * i.bytes ≤ 1099511627776 * 128 := Nat.mul_le_mul (by omega) hb
      _ = 140737488355328 := by decide
  have hmax : n + m ≤ maxLen := by unfold maxLen; omega
  have hlen : (xs ++ news).length = (n + m) * i.size := by rw [List.length_append, hown.1, hl, Nat.add_mul]
  have grown : ∀ (old : Nat), old < n + m →
      (w.drew.alloc (.cells (xs.toArray ++ news.toArray ++ Builtin.zeroCells z.cells (grownCap w (n + m) old e - (n + m))) e)).ownsRow 0 e i.size
        (.slice (some ⟨w.heap.size, 0, none⟩) (n + m) (grownCap w (n + m) old e)) (n + m) (xs ++ news) := by
    intro old ho
    have hge := grownCap_ge w (n + m) old e
    have hcm : grownCap w (n + m) old e ≤ maxLen := grownCap_le_maxLen w (n + m) old e hmax
    refine ⟨hlen, .inr ⟨w.heap.size, _, _, rfl, Nat.zero_le _, heap_alloc_new w.drew _, hge, hcm, ?_, ?_⟩⟩
    · simp only [Array.size_append, List.size_toArray, size_zeroCells, hzs, hown.1, hl, ← Nat.add_mul]
      congr 1; omega
    · simp only [Array.toList_append, List.append_assoc]
      rw [← List.append_assoc, ← hlen]
      exact List.take_left
  rcases hown.2 with ⟨rfl, rfl⟩ | ⟨g, cap, cur, rfl, hbg, hg, hnc, hcm, hcs, htake⟩
  · have hx : xs = [] := List.eq_nil_of_length_eq_zero (by simpa using hown.1)
    subst hx
    have hr := run_append_nil (P := P) w t ty e i z hu hi hz ad m c news hl hnews hm (by omega) (by simp only [Nat.zero_add] at hbytes; omega)
    have hgr := grown 0 (by omega)
    simp only [Nat.zero_add, List.nil_append, Array.empty_append] at hgr ⊢
    exact ⟨_, _, hr, hgr, by rw [alloc_size]; show w.heap.size ≤ w.heap.size + 1; omega, .inr ⟨rfl, by rw [alloc_size]; show w.heap.size < w.heap.size + 1; omega, fun k hk => heap_alloc_old w.drew _ (h := hk)⟩, rfl, rfl⟩
  · by_cases hroom : n + m ≤ cap
    · have hfit : n * i.size + news.length ≤ cur.size := by rw [hl, hcs, ← Nat.add_mul]; exact Nat.mul_le_mul_right _ hroom
      have hr := run_append_room (P := P) w t ty e i hu hi g n cap cur hg ad m c news hl hnews h1 hroom hfit
      refine ⟨_, _, hr, ⟨hlen, .inr ⟨g, cap, _, rfl, Nat.zero_le _, setRow_heap w g cur _ e _ hg, hroom, hcm, ?_, ?_⟩⟩, by simp, .inl ⟨rfl, by simp [Value.ownBlock], fun k hk => setRow_other w g k _ (fun e => hk (by simp [Value.ownBlock, e]))⟩, rfl, rfl⟩
      · simp only [List.size_toArray, List.length_append, List.length_take, List.length_drop, Array.length_toList]
        omega
      · rw [htake, ← hlen]
        exact List.take_left
    · have holds : ∀ j u, xs[j]? = some u → w.cell? ((⟨g, 0, none⟩ : Addr).add j) = some u := hown.cells (g := g) rfl
      have hr := run_append_grow (P := P) w t ty e i z hu hi hz ⟨g, 0, none⟩ n cap xs hown.1 holds ad m c news hl hnews (by omega) (by omega) (growslice_fits (by omega) hbytes)
      exact ⟨_, _, hr, grown cap (by omega), by rw [alloc_size]; show w.heap.size ≤ w.heap.size + 1; omega, .inr ⟨rfl, by rw [alloc_size]; show w.heap.size < w.heap.size + 1; omega, fun k hk => heap_alloc_old w.drew _ (h := hk)⟩, rfl, rfl⟩

/-- An append of nothing. -/
theorem run_app_zero {t ty e : TypeId} {i : TypeInfo} (hu : P.underlying t = some (.slice e)) (hi : P.info? e = some i) {v : Value} {n : Nat} {xs : List Value} (hown : w.ownsRow 0 e i.size v n xs) (base : Option Addr) (c : Nat) :
    (Builtin.append_ #[t, t] ty #[v, .slice base 0 c]).run P w = .ok v w := by
  have hb : ∀ (s : Option Addr) (k cap : Nat), k ≤ cap → (Builtin.append_ #[t, t] ty #[.slice s k cap, .slice base 0 c]).run P w = .ok (.slice s k cap) w := by
    intro s k cap hk
    cases base <;> cases s <;> simp [Builtin.append_, run_underlying hu, Go.sizeOf, typeInfo, hi, Builtin.lenOf, hk, Builtin.firstCells, loadCells, loadCellsFrom, storeCells]
  rcases hown.2 with ⟨rfl, rfl⟩ | ⟨g, cap, cur, rfl, hbg, hg, hnc, hcm, hcs, htake⟩
  · exact hb none 0 0 (by omega)
  · exact hb _ n cap hnc

/-- The values of immutable cells. -/
theorem PRc.vals {γ : Gam} : ∀ {cs : List AV} {b off : Nat}, PRc γ b off cs → ∃ us : List Value, us.length = cs.length ∧ PRs γ cs us ∧ (∀ v ∈ us, v.oneCell' = true) ∧ ∀ j u, us[j]? = some u → γ b (off + j) = some u
  | [], _, _, _ => ⟨[], rfl, .nil, by simp, by simp⟩
  | c :: cs, b, off, .cons _ _ _ _ v h1 h2 h3 h4 => by
    obtain ⟨us, q1, q2, q3, q4⟩ := PRc.vals h4
    refine ⟨v :: us, by simp [q1], .cons _ _ _ _ h2 h3 q2, by simpa [h2] using q3, fun j u hu => ?_⟩
    cases j with
    | zero => simp at hu; subst hu; exact h1
    | succ j => have := q4 j u (by simpa using hu); rw [← this]; congr 1; omega
theorem PRr.vals {γ : Gam} {sz : Nat} : ∀ {xs : List AV} {b off : Nat}, PRr γ b off sz xs → ∃ rows : List (List Value), xs.length = rows.length ∧
    (∀ (i : Nat) x r, xs[i]? = some x → rows[i]? = some r → x.cells.length = sz ∧ PRs γ x.cells r ∧ r.length = sz) ∧ (∀ r ∈ rows, ∀ v ∈ r, v.oneCell' = true) ∧
    rows.flatten.length = xs.length * sz ∧ ∀ j u, rows.flatten[j]? = some u → γ b (off + j) = some u
  | [], _, _, _ => ⟨[], rfl, by simp, by simp, by simp, by simp⟩
  | x :: xs, b, off, .cons _ _ _ _ _ h1 h2 h3 => by
    obtain ⟨us, p1, p2, p3, p4⟩ := h2.vals
    obtain ⟨rows, q1, q2, q3, q4, q5⟩ := PRr.vals h3
    refine ⟨us :: rows, by simp [q1], fun i y r hy hr => ?_, fun r hr v hv => ?_, by simp [q4, p1, h1, Nat.add_mul, Nat.add_comm], fun j u hu => ?_⟩
    · cases i with
      | zero => simp at hy hr; subst hy hr; exact ⟨h1, p2, by omega⟩
      | succ i => exact q2 i y r (by simpa using hy) (by simpa using hr)
    · rcases List.mem_cons.1 hr with rfl | hr
      · exact p3 v hv
      · exact q3 r hr v hv
    · rw [List.flatten_cons] at hu
      by_cases hj : j < us.length
      · rw [List.getElem?_append_left hj] at hu; exact p4 j u hu
      · rw [List.getElem?_append_right (by omega)] at hu
        have := q5 _ u hu
        rw [← this]; congr 1; omega
theorem PRs.mono {γ γ' : Gam} (h : GamLe γ γ') : ∀ {cs : List AV} {ws : List Value}, PRs γ cs ws → PRs γ' cs ws
  | [], _, .nil => .nil
  | _ :: _, _, .cons _ _ _ _ h1 h2 h3 => .cons _ _ _ _ h1 (h2.mono h) (PRs.mono h h3)
theorem PRr.append {γ : Gam} {b sz : Nat} : ∀ {xs ys : List AV} {off : Nat}, PRr γ b off sz xs → PRr γ b (off + xs.length * sz) sz ys → PRr γ b off sz (xs ++ ys)
  | [], ys, off, _, h => by simpa using h
  | x :: xs, ys, off, .cons _ _ _ _ _ h1 h2 h3, h => .cons _ _ _ _ _ h1 h2 (PRr.append h3 (by
      have : off + (x :: xs).length * sz = off + sz + xs.length * sz := by simp [Nat.add_mul]; omega
      rwa [this] at h))
end
end AM
/-! The simulation of appends. -/
namespace AM
open Go
section
variable {P : Program} {gl : Glob} {N : Nat} {g g' : Gh} {s s' : St} {a : Act} {w w' : World} {o : Oper}

/-- The ghost after an append: block b holds the cells 'news', and is owned by 'ow'. -/
def Gh.app (g : Gh) (b : Nat) (cells : List Value) (ow : Owner) : Gh :=
  { g with γ := fun k off => if k = b then cells[off]? else g.γ k off, Ω := fun k => if k = b then ow else g.Ω k }

/-- What a list owns, with its elements' cells. -/
theorem OwnR.cells (h : Rel P gl N g s a w) {ow : Owner} {e sz : Nat} {xs : List AV} {v : Value} (ho : OwnR P g w ow (.list (some e) sz xs) v) :
    ∃ i z vs, P.info? e = some i ∧ i.size = sz ∧ 0 < sz ∧ i.zero = some z ∧ z.cells.size = sz ∧ i.bytes ≤ 128 ∧ w.ownsRow 0 e sz v xs.length vs ∧
      (∀ b, v.ownBlock = some b → g.Ω b = ow ∧ ∀ off, g.γ b off = vs[off]?) ∧
      (∀ γ' b', (GamLe g.γ γ') → (∀ j u, vs[j]? = some u → γ' b' j = some u) → PRr γ' b' 0 sz xs) := by
  obtain ⟨i, z, vs, h1, h2, h3, h4, h5, h6, h6', h7, h8⟩ := ho e sz xs rfl
  refine ⟨i, z, vs, h1, h2, h3, h4, h5, h6, h7, fun b hb => ?_, fun γ' b' hle hg' => ?_⟩
  · obtain ⟨p1, p2, p3⟩ := h8 b hb
    refine ⟨p1, fun off => ?_⟩
    obtain ⟨rows, q1, q2, q3, q4, q5⟩ := p2.vals
    by_cases hlt : off < xs.length * sz
    · have hr : rows.flatten[off]? = some (rows.flatten[off]'(by omega)) := List.getElem?_eq_getElem (by omega)
      have hγ := q5 off _ hr
      rw [Nat.zero_add] at hγ
      have hcell := h.gam _ _ _ hγ
      have hvs : vs[off]? = some (vs[off]'(by rw [h7.1]; exact hlt)) := List.getElem?_eq_getElem _
      have := h7.cells hb off _ hvs
      rw [addr_add, Nat.zero_add, hcell] at this
      rw [hγ, hvs]; exact this
    · rw [p3 off (by omega), List.getElem?_eq_none (by rw [h7.1]; omega)]
  · cases hb : v.ownBlock with
    | none =>
      rcases h7.2 with ⟨_, h0⟩ | ⟨k, cap, cur, rfl, _⟩
      · rw [List.eq_nil_of_length_eq_zero h0]; exact .nil _ _ _
      · simp [Value.ownBlock] at hb
    | some b =>
      obtain ⟨p1, p2, p3⟩ := h8 b hb
      obtain ⟨rows, q1, q2, q3, q4, q5⟩ := p2.vals
      refine PRr.of_rows q1 (fun k x r hx hr => ?_) fun j u hu => ?_
      · obtain ⟨m1, m2, m3⟩ := q2 k x r hx hr; exact ⟨m1, m2.mono hle, m3⟩
      · have hγ := q5 j u hu
        rw [Nat.zero_add] at hγ ⊢
        have hcell := h.gam _ _ _ hγ
        have hj : j < vs.length := by rw [h7.1, ← q4]; exact (List.getElem?_eq_some_iff.1 hu).1
        have hvs : vs[j]? = some vs[j] := List.getElem?_eq_getElem hj
        have := h7.cells hb j _ hvs
        rw [addr_add, Nat.zero_add, hcell] at this
        exact hg' j u (by rw [hvs]; exact this.symm)

theorem strip_free (s : St) (x sz : Nat) (xs : List AV) : PosFree { s with env := s.env.ins x (.v (.list none sz xs)) } (.var x) :=
  ⟨fun t z ht hz => by simp at ht; subst ht; simp only [Env.get_ins] at hz; simp at hz; subst hz; exact NotOwn.none _ _, by simp, by simp, by simp, by simp, by simp⟩
def chkApp (P : Program) (N : Nat) (o : Oper) (d u : Nat) (x : Opd) (e sz : Nat) : Bool := dstIs N o d &&
  (match bcall o.op with | some (.append, [.tmp u', x'], [t, t']) => u' == u && t == t' && chkOpd x' x && elemOk P t e sz | _ => false)

/-- What a list or a nil slice is. -/
theorem VR.lst_inv {y : AV} {sz : Nat} {xs : List AV} {v : Value} (h : VR g y v) (hl : y.lst = some (sz, xs)) :
    ∃ base cap, v = .slice base xs.length cap ∧ (xs.length ≤ M ∧ xs.length ≤ cap) ∧ (xs = [] ∨ ∃ b off, base = some ⟨b, off, none⟩ ∧ PRr g.γ b off sz xs) := by
  unfold AV.lst at hl
  split at hl
  · simp at hl; obtain ⟨rfl, rfl⟩ := hl; exact h.list_inv
  · simp at hl; obtain ⟨rfl, rfl⟩ := hl
    exact ⟨none, 0, h.nils_inv, by simp, .inl rfl⟩
  · cases hl
/-- An append that adds elements: the ghost, and the relation after it. -/
theorem app_core {d u e : Nat} {xs ys : List AV} {v v' : Value} {i : TypeInfo} {z : Value} {vs : List Value} {rows : List (List Value)} (h : Rel P gl N g s a w) (hfree : PosFree s (.var u))
    (r1 : P.info? e = some i) (r3 : 0 < i.size) (r4 : i.zero = some z) (r5 : z.cells.size = i.size) (r6 : i.bytes ≤ 128) (r7 : w.ownsRow 0 e i.size v xs.length vs)
    (r8 : ∀ b, v.ownBlock = some b → g.Ω b = .var u ∧ ∀ off, g.γ b off = vs[off]?) (r9 : ∀ γ' b', (GamLe g.γ γ') → (∀ j y, vs[j]? = some y → γ' b' j = some y) → PRr γ' b' 0 i.size xs)
    (m1 : ys.length = rows.length) (m2 : ∀ (k : Nat) x r, ys[k]? = some x → rows[k]? = some r → x.cells.length = i.size ∧ PRs g.γ x.cells r ∧ r.length = i.size)
    (hM : xs.length + ys.length ≤ M) (k2 : w'.ownsRow 0 e i.size v' (xs.length + ys.length) (vs ++ rows.flatten)) (k3 : w.heap.size ≤ w'.heap.size) (k0 : (w'.os, w'.tape) = (w.os, w.tape) ∧ w'.output = w.output)
    (k4 : (v'.ownBlock = v.ownBlock ∧ v.ownBlock ≠ none ∧ ∀ k, some k ≠ v.ownBlock → w'.heap[k]? = w.heap[k]?) ∨ (v'.ownBlock = some w.heap.size ∧ w.heap.size < w'.heap.size ∧ ∀ k, k < w.heap.size → w'.heap[k]? = w.heap[k]?))
    (hd' : o.dst = some d ∧ d < N) (e2 : s.put d (.list (some e) i.size (xs ++ ys)) = some s') (hrun : (execOp a.eval o).run P w = .ok (.value v') w') : Sim1 P gl N o g a w s' := by
  have hnb : ∃ nb, v'.ownBlock = some nb := by
    rcases k4 with ⟨k5, k6, _⟩ | ⟨k5, _⟩
    · cases hv : v.ownBlock with
      | none => exact absurd hv k6
      | some b => exact ⟨b, by rw [k5, hv]⟩
    · exact ⟨_, k5⟩
  obtain ⟨nb, hnb⟩ := hnb
  -- the ghost grows
  have hold : ∀ b' off' y, g.γ b' off' = some y → b' = nb → v.ownBlock = some nb := by
    intro b' off' y hy' e
    subst e
    rcases k4 with ⟨k5, _⟩ | ⟨k5, _⟩
    · rw [← k5, hnb]
    · rw [k5] at hnb; simp at hnb; subst hnb
      rw [h.gnone] at hy'; cases hy'
  have hle : GhLe g (g.app nb (vs ++ rows.flatten) (.var d)) := ⟨fun b' off' y hy' => by
    by_cases e : b' = nb
    · have hv := hold _ _ _ hy' e
      subst e
      simp only [Gh.app, if_true]
      rw [(r8 _ hv).2] at hy'
      rw [List.getElem?_append_left (List.getElem?_eq_some_iff.1 hy').1]; exact hy'
    · simp [Gh.app, e, hy'], fun _ _ hh => hh⟩
  have hΩ : g.Ω nb = .none ∨ g.Ω nb = .var u := by
    rcases k4 with ⟨k5, _⟩ | ⟨k5, _⟩
    · right; exact (r8 nb (by rw [← k5, hnb])).1
    · left; rw [k5] at hnb; simp at hnb; subst hnb; exact h.onone
  have hblk : ∀ k, k ≠ nb → k < w.heap.size → w'.heap[k]? = w.heap[k]? := by
    intro k hk hlt
    rcases k4 with ⟨k5, _, k6⟩ | ⟨k5, _, k6⟩
    · exact k6 k (fun e => hk (by rw [← k5, hnb] at e; simpa using e))
    · exact k6 k hlt
  have hkept : ∀ k, g.Ω k ≠ .none → g.Ω k ≠ .var u → (g.app nb (vs ++ rows.flatten) (.var d)).Ω k = g.Ω k ∧ w'.heap[k]? = w.heap[k]? ∧ ∀ o, (g.app nb (vs ++ rows.flatten) (.var d)).γ k o = g.γ k o := by
    intro k hk1 hk2
    have hne : k ≠ nb := fun e => by subst e; rcases hΩ with hh | hh <;> simp [hh] at hk1 hk2
    exact ⟨by simp [Gh.app, hne], hblk k hne (h.own k hk1), fun _ => by simp [Gh.app, hne]⟩
  have hcells := k2.cells hnb
  have hgam' : ∀ b' off' y, (g.app nb (vs ++ rows.flatten) (.var d)).γ b' off' = some y → w'.cell? ⟨b', off', none⟩ = some y := by
    intro b' off' y hy'
    by_cases e : b' = nb
    · subst e
      simp only [Gh.app, if_true] at hy'
      have := hcells off' y hy'
      rwa [addr_add, Nat.zero_add] at this
    · simp [Gh.app, e] at hy'
      have hc := h.gam _ _ _ hy'
      unfold World.cell? at hc ⊢
      rw [hblk b' e (cell_lt (h.gam _ _ _ hy'))]; exact hc
  have h' := h.step (g' := g.app nb (vs ++ rows.flatten) (.var d)) (w' := w') (.var u) hfree hle (fun k hk => hkept k hk.1 hk.2) hgam' (fun k hk => by
    by_cases e : k = nb
    · subst e
      have := k2.lt k hnb; exact this.2
    · simp [Gh.app, e] at hk; have := h.own k hk; omega) h.rho
  have hgle : GLe g w (g.app nb (vs ++ rows.flatten) (.var d)) w' := ⟨hle, fun k hk => by
    obtain ⟨n1, n2, n3⟩ := hkept k (by rw [hk]; simp) (by rw [hk]; simp)
    exact ⟨n1.trans hk, n2, n3⟩, k3, k0.1, k0.2⟩
  -- the new list
  have hrowx : PRr (g.app nb (vs ++ rows.flatten) (.var d)).γ nb 0 i.size xs := r9 _ nb hle.γ fun j u hj => by
    simp only [Gh.app, if_true]
    rw [List.getElem?_append_left (List.getElem?_eq_some_iff.1 hj).1]; exact hj
  have hrowy : PRr (g.app nb (vs ++ rows.flatten) (.var d)).γ nb (0 + xs.length * i.size) i.size ys := by
    refine PRr.of_rows m1 (fun k x r hx hr => ?_) fun j u hj => ?_
    · obtain ⟨n1, n2, n3⟩ := m2 k x r hx hr; exact ⟨n1, n2.mono hle.γ, n3⟩
    · simp only [Gh.app, if_true]
      rw [Nat.zero_add, List.getElem?_append_right (by rw [r7.1]; omega), r7.1]
      rw [← hj]; congr 1; omega
  have hrow := PRr.append hrowx hrowy
  have hv' : ∃ cap', v' = .slice (some ⟨nb, 0, none⟩) (xs.length + ys.length) cap' ∧ xs.length + ys.length ≤ cap' := by
    rcases k2.2 with ⟨rfl, _⟩ | ⟨k, cap', cur, rfl, _, _, hc, _⟩
    · simp [Value.ownBlock] at hnb
    · simp [Value.ownBlock] at hnb; subst hnb; exact ⟨cap', rfl, hc⟩
  obtain ⟨cap', rfl, hcap'⟩ := hv'
  refine ⟨.slice (some ⟨nb, 0, none⟩) (xs.length + ys.length) cap', w', _, .inl hrun, hgle, ?_⟩
  rw [hd'.1]
  refine h'.put e2 hd'.2 (.own _ _ _ _ (.list_of (by simp) (by simpa using hM) (by simpa using hcap') hrow)) ?_
  intro e' sz' zs hz'
  simp at hz'; obtain ⟨rfl, rfl, rfl⟩ := hz'
  refine ⟨i, z, vs ++ rows.flatten, r1, rfl, r3, r4, r5, r6, by simpa using hM, by simpa using k2, fun b' hb' => ?_⟩
  rw [hnb] at hb'; simp at hb'; subst hb'
  refine ⟨by simp [Gh.app], hrow, fun off hoff => ?_⟩
  simp only [Gh.app, if_true]
  rw [List.getElem?_eq_none]
  rw [k2.1]; simpa using hoff

theorem sim_app {d u : Nat} {x : Opd} {e sz : Nat} (h : Rel P gl N g s a w) (hc : chkApp P N o d u x e sz = true) (he : ev gl s (.app d u x e sz) = some s') : Sim1 P gl N o g a w s' := by
  simp only [chkApp, Bool.and_eq_true] at hc
  obtain ⟨hd, hop⟩ := hc
  split at hop
  · rename_i u' x' t t' ho
    obtain ⟨cst, hrun⟩ := bcall_run (o := o) ho rfl a.eval
    simp only [Bool.and_eq_true, beq_iff_eq] at hop
    obtain ⟨⟨⟨rfl, rfl⟩, hx⟩, hk⟩ := hop
    obtain ⟨hu, hk⟩ := elemOk_spec hk
    have hd' := hd
    simp only [dstIs, Bool.and_eq_true, beq_iff_eq, decide_eq_true_eq] at hd'
    simp only [ev] at he
    split at he
    · rename_i e' sz' xs sz'' ys hs hy
      obtain ⟨y, hy, hyl⟩ := bind_some hy
      split at he
      · rename_i hb
        obtain ⟨rfl, rfl, rfl, hdu, hM⟩ := hb
        obtain ⟨s1, e1, e2⟩ := bind_some he
        obtain ⟨h3, h4⟩ := h.strip hs
        rw [h3] at e1; simp at e1; subst e1
        obtain ⟨v, p1, p2, p3⟩ := h.env _ _ hs
        obtain ⟨i, z, vs, r1, r2, r3, r4, r5, r6, r7, r8, r9⟩ := OwnR.cells h p3
        obtain ⟨base, cap, q1, q2, q3⟩ := VR.lst_inv (evO_sound h hx hy) hyl
        have hev : a.eval (.tmp u') = v := by simp [Act.eval, p1]
        subst r2
        by_cases hys : ys = []
        · subst hys
          have hr := run_app_zero (P := P) (w := w) (ty := o.type) hu r1 r7 base cap
          simp only [List.append_nil] at e2
          obtain ⟨g', m1, m2⟩ := h4.passTo (strip_free _ _ _ _) (by simp) (by simp) hd'.2 e2 p2 p3 ⟨_, _, _, rfl⟩
          refine ⟨v, w, g', .inl ?_, m1, by rw [hd'.1]; exact m2⟩
          rw [hrun]
          simp only [builtin, List.map_cons, List.map_nil, hev, q1, List.length_nil, Sem.run_bind, hr, Result.andThen_ok, Sem.run_pure]
        · rcases q3 with q3 | ⟨b, off, rfl, q4⟩
          · exact absurd q3 hys
          obtain ⟨rows, m1, m2, m3, m4, m5⟩ := q4.vals
          have hnews : ∀ j u, rows.flatten[j]? = some u → w.cell? ((⟨b, off, none⟩ : Addr).add j) = some u := fun j u hj => by rw [addr_add]; exact h.gam _ _ _ (m5 j u hj)
          have hone : ∀ u ∈ rows.flatten, u.oneCell' = true := fun u hu' => by
            obtain ⟨r, hr, hu''⟩ := List.mem_flatten.1 hu'
            exact m3 r hr u hu''
          have hpos : 0 < ys.length := by cases ys with | nil => exact absurd rfl hys | cons => simp
          obtain ⟨v', w', k1, k2, k3, k4, k0⟩ := run_app (P := P) (w := w) (ty := o.type) (c := cap) hu r1 r4 r5 r7 m4 hnews hone hpos hM r6
          refine app_core (rows := rows) h4 (strip_free _ _ _ _) r1 r3 r4 r5 r6 r7 r8 r9 m1 m2 hM k2 k3 k0 k4 hd' e2 ?_
          rw [hrun]
          simp only [builtin, List.map_cons, List.map_nil, hev, q1, Sem.run_bind, k1, Result.andThen_ok, Sem.run_pure]
      · cases he
    · rename_i sz' sz'' ys hs hy
      obtain ⟨y, hy, hyl⟩ := bind_some hy
      split at he
      · rename_i hb
        obtain ⟨rfl, rfl, hdu, hM⟩ := hb
        obtain ⟨v, p1, p2, _⟩ := h.env _ _ hs
        have p2 := p2.nils_inv
        subst p2
        have p3 := okElem_own hk g w (.var u')
        have hfree : PosFree s (.var u') := ⟨fun t z ht hz => by simp at ht; subst ht; rw [hs] at hz; simp at hz; subst hz; exact fun _ _ _ h => by simp at h, by simp, by simp, by simp, by simp, by simp⟩
        obtain ⟨i, z, vs, r1, r2, r3, r4, r5, r6, r7, r8, r9⟩ := OwnR.cells h p3
        obtain ⟨base, cap, q1, q2, q3⟩ := VR.lst_inv (evO_sound h hx hy) hyl
        have hev : a.eval (.tmp u') = .slice none 0 0 := by simp [Act.eval, p1]
        subst r2
        by_cases hys : ys = []
        · subst hys
          have hr := run_app_zero (P := P) (w := w) (ty := o.type) hu r1 r7 base cap
          refine ⟨.slice none 0 0, w, g, .inl ?_, .refl _ _, by rw [hd'.1]; exact h.put he hd'.2 (.own _ _ _ _ (.list0 _ _ _)) (okElem_own hk g w _)⟩
          rw [hrun]
          simp only [builtin, List.map_cons, List.map_nil, hev, q1, List.length_nil, Sem.run_bind, hr, Result.andThen_ok, Sem.run_pure]
        · rcases q3 with q3 | ⟨b, off, rfl, q4⟩
          · exact absurd q3 hys
          obtain ⟨rows, m1, m2, m3, m4, m5⟩ := q4.vals
          have hnews : ∀ j u, rows.flatten[j]? = some u → w.cell? ((⟨b, off, none⟩ : Addr).add j) = some u := fun j u hj => by rw [addr_add]; exact h.gam _ _ _ (m5 j u hj)
          have hone : ∀ u ∈ rows.flatten, u.oneCell' = true := fun u hu' => by
            obtain ⟨r, hr, hu''⟩ := List.mem_flatten.1 hu'
            exact m3 r hr u hu''
          have hpos : 0 < ys.length := by cases ys with | nil => exact absurd rfl hys | cons => simp
          obtain ⟨v', w', k1, k2, k3, k4, k0⟩ := run_app (P := P) (w := w) (ty := o.type) (c := cap) hu r1 r4 r5 r7 m4 hnews hone hpos (by simpa using hM) r6
          refine app_core (rows := rows) (xs := []) h hfree r1 r3 r4 r5 r6 r7 r8 r9 m1 m2 (by simpa using hM) k2 k3 k0 k4 hd' he ?_
          rw [hrun]
          simp only [builtin, List.map_cons, List.map_nil, hev, q1, Sem.run_bind, k1, Result.andThen_ok, Sem.run_pure]
      · cases he
    · cases he
  · cases hop
end
end AM
/-! The simulation of immutable boxes, of arrays' addresses, of comparisons with nil. -/
namespace AM
open Go
section
variable {P : Program} {gl : Glob} {N : Nat} {g g' : Gh} {s s' : St} {a : Act} {w w' : World} {o : Oper}

theorem pure1_one {c : AV} (h : c.pure1 = true) : c.one = true := by
  cases c <;> first | rfl | simp [AV.pure1] at h
theorem sim_boxI {d : Nat} {x : Opd} (h : Rel P gl N g s a w) (hc : chkBox N o d x = true) (he : ev gl s (.boxI d x) = some s') : Sim1 P gl N o g a w s' := by
  simp only [chkBox, Bool.and_eq_true] at hc
  obtain ⟨hd, hop⟩ := hc
  split at hop
  · rename_i e x' ho
    obtain ⟨u, h1, h2⟩ := bind_some he
    split at h2
    · rename_i hp
      simp only [dstIs, Bool.and_eq_true, beq_iff_eq, decide_eq_true_eq] at hd
      have hone : u.cells.all AV.one = true := by
        rw [List.all_eq_true] at hp ⊢
        exact fun c hc => pure1_one (hp c hc)
      obtain ⟨p1, p2⟩ := (evO_sound h hop h1).cells hone
      have p3 := p1.pure_prs hp p2
      obtain ⟨q1, q2⟩ := h.allocI (a.eval x').cells e
      have hle := q1.toGhLe
      have hrow : PRc (g.addI w.heap.size (a.eval x').cells).γ w.heap.size 0 u.cells :=
        PRc.of_list (p3.mono hle.γ) fun i v hv => by simpa [Gh.addI] using hv
      refine ⟨ptrTo w.heap.size 0, w.alloc (.cells (a.eval x').cells e), _, .inl ?_, q1, ?_⟩
      · simp only [execOp, ho, Sem.run_bind, run_box, Result.andThen_ok, Sem.run_pure]
      · rw [hd.1]
        exact q2.put h2 hd.2 (.pure _ _ (.cptr _ _ _ hrow)) (notOwn_cptr _).ownR
    · cases h2
  · cases hop

theorem run_equalIn_slcnil (d : Nat) {t e : TypeId} (hu : P.underlying t = some (.slice e)) (b : Option Addr) (n c : Nat) : (Op.equalIn (d + 1) t (.slice b n c) (.slice none 0 0)).run P w = .ok b.isNone w := by
  cases b <;> simp [Op.equalIn, run_underlying hu]
theorem run_equal_slcnil {t e : TypeId} (hu : P.underlying t = some (.slice e)) (b : Option Addr) (n c : Nat) : (Op.equal t (.slice b n c) (.slice none 0 0)).run P w = .ok b.isNone w := run_equalIn_slcnil 9999 hu b n c
def nilSlice : Value → Bool
  | .slice none 0 0 => true
  | _ => false
def chkIsnil (P : Program) (N : Nat) (o : Oper) (d : Nat) (ne : Bool) (x : Opd) : Bool := dstIs N o d &&
  (match o.op with | .binOp op t x' (.const c) _ => decide (op = if ne then .neq else .eql) && chkOpd x' x && nilSlice c && (match P.underlying t with | some (.slice _) => true | _ => false) | _ => false)
theorem sim_isnil {d : Nat} {ne : Bool} {x : Opd} (h : Rel P gl N g s a w) (hc : chkIsnil P N o d ne x = true) (he : ev gl s (.isnil d ne x) = some s') : Sim1 P gl N o g a w s' := by
  simp only [chkIsnil, Bool.and_eq_true] at hc
  obtain ⟨hd, hop⟩ := hc
  split at hop
  · rename_i op t x' c ty ho
    simp only [Bool.and_eq_true, decide_eq_true_eq] at hop
    obtain ⟨⟨⟨hop, hx⟩, hn⟩, hk⟩ := hop
    split at hk
    · rename_i e hu
      have hc : c = .slice none 0 0 := by unfold nilSlice at hn; split at hn <;> first | rfl | cases hn
      subst hc
      have hcst : a.eval (.const (.slice none 0 0)) = .slice none 0 0 := rfl
      have hrun : ∀ b n cp, a.eval x' = .slice b n cp → (execOp a.eval o).run P w = .ok (.value (.bool (if ne then !b.isNone else b.isNone))) w := by
        intro b n cp hv
        cases ne with
        | false =>
          simp only [Bool.false_eq_true, if_false] at hop ⊢; subst hop
          simp only [execOp, ho, hv, hcst, Sem.run_bind]
          have := run_eql (P := P) (w := w) (xo := x') (yo := .const (.slice none 0 0)) (x := .slice b n cp) (y := .slice none 0 0) (t := t) (by simp [eqGuard]) (by simp [binOp]) (run_equal_slcnil hu b n cp)
          simp only [Sem.run_bind] at this
          rw [this]; rfl
        | true =>
          simp only [if_true] at hop ⊢; subst hop
          simp only [execOp, ho, hv, hcst, Sem.run_bind]
          have := run_neq (P := P) (w := w) (xo := x') (yo := .const (.slice none 0 0)) (x := .slice b n cp) (y := .slice none 0 0) (t := t) (by simp [eqGuard]) (by simp [binOp]) (run_equal_slcnil hu b n cp)
          simp only [Sem.run_bind] at this
          rw [this]; rfl
      simp only [ev] at he
      split at he
      · rename_i sz hv
        have hv := (evO_sound h hx hv).nils_inv
        refine .value h hd he (hrun _ _ _ hv) ?_ (notOwn_bool _)
        cases ne <;> exact .pure _ _ (.bool _)
      · rename_i own sz y ys hv
        obtain ⟨base, cap, hv, _, hb⟩ := (evO_sound h hx hv).list_inv
        rcases hb with hb | ⟨b, off, rfl, _⟩
        · cases hb
        refine .value h hd he (hrun _ _ _ hv) ?_ (notOwn_bool _)
        cases ne <;> exact .pure _ _ (.bool _)
      · cases he
    · cases hk
  · cases hop
/-- The type of a literal's elements. -/
def litEl (P : Program) (o : Oper) (e0 : Nat) : Bool := match o.op with
  | .buildSlice t _ _ => (match P.underlying t with | some (.slice e) => e == e0 | _ => false)
  | _ => false
def chkLitO (P : Program) (N : Nat) (o : Oper) (d e0 sz : Nat) (xs : List Opd) : Bool := chkLit P N o d sz xs && litEl P o e0
theorem sim_litO {d e0 sz : Nat} {xs : List Opd} (h : Rel P gl N g s a w) (hc : chkLitO P N o d e0 sz xs = true) (he : ev gl s (.litO d e0 sz xs) = some s') : Sim1 P gl N o g a w s' := by
  simp only [chkLitO, chkLit, Bool.and_eq_true] at hc
  obtain ⟨⟨hd, hop⟩, hel⟩ := hc
  split at hop
  · rename_i t n ps ho
    simp only [Bool.and_eq_true, beq_iff_eq] at hop
    obtain ⟨⟨⟨rfl, hseq⟩, hxs⟩, hk⟩ := hop
    unfold litOk at hk
    split at hk
    · rename_i e hu
      simp only [Bool.and_eq_true, decide_eq_true_eq] at hk
      obtain ⟨hk1, hk2⟩ := hk
      obtain ⟨i, z, r1, r2, r3, r4, r5, r6⟩ := okElem_spec hk1
      obtain ⟨vs, e1, e2⟩ := bind_some he
      split at e2
      · rename_i hb
        simp only [Bool.and_eq_true, decide_eq_true_eq, List.all_eq_true, beq_iff_eq] at hb
        obtain ⟨hb1, hb2⟩ := hb
        have hvr := evOs_sound h hxs e1
        have hps : (ps.map fun (i, x) => (i, a.eval x)) = (((ps.toList.map (·.2)).map a.eval).zipIdx.map fun (v, i) => (i, v)).toArray := by
          rw [← seqParts_spec hseq a.eval]; apply Array.ext'; simp
        have hl2 : xs.length = ((ps.toList.map (·.2)).map a.eval).length := by
          simp only [chkOpds, Bool.and_eq_true, beq_iff_eq] at hxs; rw [List.length_map]; exact hxs.1.symm
        generalize (ps.toList.map (·.2)).map a.eval = us at hvr hps hl2
        have hget := hvr.get
        -- the concrete elements
        have hpr : ∀ (k : Nat) x v, vs[k]? = some x → us[k]? = some v → PR g.γ x.noOwn v ∧ x.noOwn.cells.length = sz ∧ v.cells.size = sz := by
          intro k x v hx hv
          obtain ⟨hp1, hp2⟩ := hb1 x (List.mem_of_getElem? hx)
          obtain ⟨v', q1, q2⟩ := hget.2 k x hx
          rw [hv] at q1; simp at q1; subst q1
          have hp := q2.noOwn.pure_pr hp1
          have hcl : x.noOwn.cells.length = sz := by
            have : x.noOwn.cells.length = x.cells.length := by cases x <;> rfl
            rw [this]; exact hp2
          refine ⟨hp, hcl, ?_⟩
          have hpc := hp.cells
          have : ∀ {cs : List AV} {ws : List Value}, PRs g.γ cs ws → ws.length = cs.length := by
            intro cs ws hh
            induction ws generalizing cs with
            | nil => cases hh; rfl
            | cons w ws ih => cases hh with | cons _ _ _ _ _ _ h3 => simp [ih h3]
          have := this hpc
          simp at this; omega
        have hvsz : ∀ v ∈ us, v.cells.size = i.size := by
          intro v hv
          obtain ⟨k, hk', hkv⟩ := List.getElem_of_mem hv
          have hkl : k < vs.length := by have := hget.1; omega
          have := (hpr k vs[k] v (by simp [hkl]) (by rw [List.getElem?_eq_getElem hk', hkv])).2.2
          omega
        have hrun := run_buildSlice (P := P) (w := w) hu r1 r4 (by omega) hvsz (by
          have h1 : us.length ≤ 1000 := by rw [hget.1]; exact hb2
          calc _ ≤ 1000 * 1000 := Nat.mul_le_mul h1 (by omega)
            _ ≤ 2 ^ 24 := by decide)
        obtain ⟨q1, q2⟩ := h.allocI (us.map (·.cells.toList)).flatten.toArray e
        have hflat : (us.map (·.cells.toList)).flatten.length = us.length * sz := by
          have : ∀ (l : List Value), (∀ v ∈ l, v.cells.size = sz) → (l.map (·.cells.toList)).flatten.length = l.length * sz := by
            intro l
            induction l with
            | nil => simp
            | cons v l ih => intro hl; simp only [List.map_cons, List.flatten_cons, List.length_append, List.length_cons, ih fun v hv => hl v (by simp [hv]), Array.length_toList, hl v (by simp), Nat.add_mul]; omega
          exact this us fun v hv => by rw [hvsz v hv]; exact r2
        have hlen : (vs.map AV.noOwn).length = us.length := by rw [List.length_map]; exact hget.1.symm
        have hrow : PRr (g.addI w.heap.size (us.map (·.cells.toList)).flatten.toArray).γ w.heap.size 0 sz (vs.map AV.noOwn) := by
          refine PRr.of_rows (rows := us.map (·.cells.toList)) (by rw [List.length_map, List.length_map]; exact hget.1.symm) (fun k x r hx hr => ?_) fun k v hv => by simpa [Gh.addI] using hv
          rw [List.getElem?_map] at hx hr
          cases hxk : vs[k]? with
          | none => simp [hxk] at hx
          | some x' =>
            cases hvk : us[k]? with
            | none => simp [hvk] at hr
            | some v' =>
              simp [hxk] at hx; simp only [hvk, Option.map_some, Option.some.injEq] at hr; subst hx hr
              obtain ⟨m1, m2, m3⟩ := hpr k x' v' hxk hvk
              exact ⟨m2, (m1.mono q1.γ).cells, by simpa using m3⟩
        have he0 : e = e0 := by
          unfold litEl at hel
          rw [ho] at hel
          simp only [hu, beq_iff_eq] at hel
          exact hel
        subst he0
        simp only [dstIs, Bool.and_eq_true, beq_iff_eq, decide_eq_true_eq] at hd
        have hfree : PosFree s .junk := ⟨by simp, by simp, by simp, by simp, by simp, by simp⟩
        have hn1 : us.length ≤ 1000 := by rw [hget.1]; exact hb2
        have hvr' : VR (g.addI w.heap.size (us.map (·.cells.toList)).flatten.toArray) (.list (some e) sz (vs.map AV.noOwn)) (.slice (some ⟨w.heap.size, 0, none⟩) us.length us.length) :=
          .own _ _ _ _ (.list_of hlen.symm (by simp; unfold M; omega) (by omega) hrow)
        have hown : OwnR P (g.addI w.heap.size (us.map (·.cells.toList)).flatten.toArray) (w.alloc (.cells (us.map (·.cells.toList)).flatten.toArray e)) .junk (.list (some e) sz (vs.map AV.noOwn)) (.slice (some ⟨w.heap.size, 0, none⟩) us.length us.length) := by
          intro e' sz' ys hy
          simp at hy; obtain ⟨rfl, rfl, rfl⟩ := hy
          refine ⟨i, z, (us.map (·.cells.toList)).flatten, r1, r2, r3, r4, r5, r6, by simp; unfold M; omega, ⟨by rw [hflat, hlen], .inr ⟨w.heap.size, us.length, (us.map (·.cells.toList)).flatten.toArray, by rw [hlen], Nat.zero_le _, heap_alloc_new w _, by omega, by unfold maxLen; omega, by simpa using hflat, ?_⟩⟩, fun b hb => ?_⟩
          · rw [hlen, ← hflat]; exact List.take_length
          · simp [Value.ownBlock] at hb; subst hb
            refine ⟨by simp [Gh.addI], hrow, fun off hoff => ?_⟩
            simp only [Gh.addI, if_true, List.getElem?_toArray]
            rw [List.getElem?_eq_none]; rw [hflat, ← hlen]; exact hoff
        obtain ⟨g', m1, m2⟩ := q2.passTo hfree (by simp) (by simp) hd.2 e2 hvr' hown ⟨_, _, _, rfl⟩
        refine ⟨.slice (some ⟨w.heap.size, 0, none⟩) us.length us.length, _, g', .inl ?_, q1.trans m1, ?_⟩
        · simp only [execOp, ho, Sem.run_bind]
          rw [hps, hl2, hrun]; rfl
        · rw [hd.1]; exact m2
      · cases e2
    · cases hk
  · cases hop
end
end AM
/-! The simulation of arrays' elements and slices. -/
namespace AM
open Go
section
variable {P : Program} {gl : Glob} {N : Nat} {g g' : Gh} {s s' : St} {a : Act} {w w' : World} {o : Oper}

def arrOk (P : Program) (t n sz : Nat) : Bool := match P.underlying t with
  | some (.array m e) => m == n && (match P.info? e with | some f => f.size == sz | none => false)
  | _ => false
theorem arrOk_spec {t n sz : Nat} (h : arrOk P t n sz = true) : ∃ e f, P.underlying t = some (.array n e) ∧ P.info? e = some f ∧ f.size = sz := by
  unfold arrOk at h
  split at h
  · rename_i m e hu
    simp only [Bool.and_eq_true, beq_iff_eq] at h
    obtain ⟨rfl, h⟩ := h
    split at h
    · rename_i f hf; simp at h; exact ⟨e, f, hu, hf, h⟩
    · cases h
  · cases h
theorem run_indexAt_arr {t e n : Nat} {f : TypeInfo} (hu : P.underlying t = some (.array n e)) (hi : P.info? e = some f) (b off : Nat) (k : IntKind) {j : Int} (h0 : 0 ≤ j) (h1 : j < n) :
    (Instr.indexAt t (ptrTo b off) (.int k j)).run P w = .ok (ptrTo b (off + j.toNat * f.size)) w := by
  simp [Instr.indexAt, asIntOf, run_underlying hu, h0, h1, Go.sizeOf, typeInfo, hi, addr_add, ptrTo, Instr.sureAddr]
def chkIaa (P : Program) (N : Nat) (o : Oper) (d : Nat) (x : Opd) (n sz : Nat) (i : Opd) : Bool := dstIs N o d &&
  (match o.op with | .indexAddr t x' i' => chkOpd x' x && chkOpd i' i && arrOk P t n sz | _ => false)
theorem sim_iaa {d n sz : Nat} {x i : Opd} (h : Rel P gl N g s a w) (hc : chkIaa P N o d x n sz i = true) (he : ev gl s (.iaa d x n sz i) = some s') : Sim1 P gl N o g a w s' := by
  simp only [chkIaa, Bool.and_eq_true] at hc
  obtain ⟨hd, hop⟩ := hc
  split at hop
  · rename_i t x' i' ho
    simp only [Bool.and_eq_true] at hop
    obtain ⟨⟨hx, hi⟩, hk⟩ := hop
    obtain ⟨e, f, hu, hf, rfl⟩ := arrOk_spec hk
    have hrun : ∀ b o' k (j : Int), a.eval x' = ptrTo b o' → a.eval i' = .int k j → 0 ≤ j → j < n → (execOp a.eval o).run P w = .ok (.value (ptrTo b (o' + j.toNat * f.size))) w := by
      intro b o' k j e1 e2 h0 h1
      simp only [execOp, ho, Sem.run_bind, e1, e2, run_indexAt_arr hu hf b o' k h0 h1, Result.andThen_ok, Sem.run_pure]
    simp only [ev] at he
    split at he
    · rename_i t' o' k j hp hj
      obtain ⟨b, cs, q1, q2, q3, q4⟩ := adr_sound h hx hp
      split at he
      · rename_i hb
        simp at he; subst he
        exact .addr h hd hb.2.2 q1 q2 (hrun _ _ _ _ q3 (evO_sound h hi hj).int_inv hb.1 hb.2.1)
      · cases he
    · rename_i id o' k j hp hj
      obtain ⟨b, q1, q2⟩ := adr_sound h hx hp
      split at he
      · rename_i hb
        exact .value h hd he (hrun _ _ _ _ q2 (evO_sound h hi hj).int_inv hb.1 hb.2) (.ptr _ _ _ q1) (notOwn_ptr _ _)
      · cases he
    · rename_i cs k j hp hj
      obtain ⟨b, o', q1, q2⟩ := adr_sound h hx hp
      split at he
      · rename_i hb
        exact .value h hd he (hrun _ _ _ _ q1 (evO_sound h hi hj).int_inv hb.1 hb.2.1) (.pure _ _ (.cptr _ _ _ (q2.drop _))) (notOwn_cptr _)
      · cases he
    · cases he
  · cases hop

theorem PRc.one_cells {γ : Gam} {b off : Nat} {c : AV} {cs : List AV} (h : PRc γ b off (c :: cs)) : c.cells = [c] := by
  cases h with
  | cons _ _ _ _ v h1 h2 h3 h4 =>
    cases h3 <;> first | rfl | simp [Value.oneCell'] at h2
theorem chunk_rows {γ : Gam} {b sz : Nat} (hsz : 0 < sz) : ∀ (n off : Nat) (cs : List AV), cs.length = n * sz → PRc γ b off cs → PRr γ b off sz (chunk sz n cs) ∧ (chunk sz n cs).length = n
  | 0, _, _, _, _ => ⟨.nil _ _ _, rfl⟩
  | n + 1, off, cs, hl, hc => by
    have hl' : (cs.drop sz).length = n * sz := by rw [List.length_drop, hl, Nat.add_mul]; omega
    have hge : sz ≤ cs.length := by rw [hl, Nat.add_mul]; omega
    obtain ⟨h1, h2⟩ := chunk_rows hsz n (off + sz) (cs.drop sz) hl' (hc.drop sz)
    simp only [chunk]
    refine ⟨.cons _ _ _ _ _ ?_ ?_ h1, by simp [h2]⟩
    · split
      · rename_i e; subst e
        match cs, hge, hc with
        | c :: cs, _, hc => simp [hc.one_cells]
      · simp [AV.cells]; omega
    · split
      · rename_i e; subst e
        match cs, hge, hc with
        | c :: cs, _, hc => simp only [List.headD_cons, hc.one_cells]; exact hc.take 1
      · exact hc.take sz
theorem run_slice_arr {t e n : Nat} {f : TypeInfo} {b off : Nat} {lo hi : Option Value} {i j : Nat} (hu : P.underlying t = some (.array n e)) (hf : P.info? e = some f)
    (hb : (Instr.sliceBounds false n n lo hi none).run P w = .ok (i, j, n) w) :
    (Instr.sliceAt t (ptrTo b off) lo hi none).run P w = .ok (.slice (some (if n = i then ⟨b, off, none⟩ else (⟨b, off, none⟩ : Addr).add (i * f.size))) (j - i) (n - i)) w := by
  simp only [Instr.sliceAt, Sem.run_bind, run_underlying hu, Result.andThen_ok, Instr.sureAddr, ptrTo, Sem.run_pure, hb, Go.sizeOf, typeInfo, run_program, hf]
def chkSla (P : Program) (N : Nat) (o : Oper) (d : Nat) (x : Opd) (n sz : Nat) (lo hi : Option Opd) : Bool := dstIs N o d && decide (0 < sz) &&
  (match o.op with | .slice t x' lo' hi' none => chkOpd x' x && chkBnd lo' lo && chkBnd hi' hi && arrOk P t n sz | _ => false)
theorem sim_sla {d n sz : Nat} {x : Opd} {lo hi : Option Opd} (h : Rel P gl N g s a w) (hc : chkSla P N o d x n sz lo hi = true) (he : ev gl s (.sla d x n sz lo hi) = some s') : Sim1 P gl N o g a w s' := by
  simp only [chkSla, Bool.and_eq_true, decide_eq_true_eq] at hc
  obtain ⟨⟨hd, hsz⟩, hop⟩ := hc
  split at hop
  · rename_i t x' lo' hi' ho
    simp only [Bool.and_eq_true] at hop
    obtain ⟨⟨⟨hx, hlo⟩, hhi⟩, hk⟩ := hop
    obtain ⟨e, f, hu, hf, rfl⟩ := arrOk_spec hk
    simp only [ev] at he
    split at he
    · rename_i cs hp
      obtain ⟨b, off, q1, q2⟩ := adr_sound h hx hp
      split at he
      · rename_i hn
        split at he
        · rename_i i j hi1 hj1
          split at he
          · rename_i hb
            obtain ⟨h1, h2, h3⟩ := hb
            obtain ⟨hr, hlen⟩ := chunk_rows hsz n off cs hn.1 q2
            have hbd := run_bounds (P := P) (w := w) (cap := n) h false hlo hhi hi1 hj1 h1 h2 h3 (Nat.le_refl _)
            refine .value h hd he (v := .slice (some (if n = i.toNat then ⟨b, off, none⟩ else (⟨b, off, none⟩ : Addr).add (i.toNat * f.size))) (j.toNat - i.toNat) (n - i.toNat)) ?_ ?_ (NotOwn.none _ _)
            · simp only [execOp, ho, Option.map_none, Sem.run_bind, q1, run_slice_arr hu hf hbd, Result.andThen_ok, Sem.run_pure]
            · have hlen' : (((chunk f.size n cs).take j.toNat).drop i.toNat).length = j.toNat - i.toNat := by simp [hlen]; omega
              by_cases hij : j.toNat = i.toNat
              · exact .pure _ _ (.list_nil (by apply List.eq_nil_of_length_eq_zero; omega) (by omega))
              · have hne : ¬ n = i.toNat := by omega
                simp only [hne, if_false, addr_add]
                exact .pure _ _ (.list_of hlen'.symm (by rw [hlen']; unfold M; omega) (by omega) ((hr.take _).drop _))
          · cases he
        · cases he
      · cases he
    · cases he
  · cases hop
end
end AM
/-! The simulation of slices over new heap objects. -/
namespace AM
open Go
section
variable {P : Program} {gl : Glob} {N : Nat} {g g' : Gh} {s s' : St} {a : Act} {w w' : World} {o : Oper}

/-- A new heap slice. -/
theorem Rel.allocBuf (h : Rel P gl N g s a w) {cs : List AV} {ws : List Value} {e sz : Nat} (hok : okElem P e sz = true) (hc : VRs g cs ws) (h1 : ∀ v ∈ ws, v.oneCell' = true) (hn : ∀ c ∈ cs, NotOwn c) (hcap : ws.length ≤ maxLen * sz) :
    ∃ g', GLe g w g' (w.alloc (.cells ws.toArray e)) ∧ Rel P gl N g' { s with heap := s.heap ++ [AObj.buf e cs, .dead] } a (w.alloc (.cells ws.toArray e)) ∧ g'.ρ s.heap.length = some w.heap.size ∧
      g'.ρ (s.heap.length + 1) = some ws.length := by
  obtain ⟨q1, q2⟩ := h.alloc (.cells ws.toArray e) (.ob s.heap.length)
  have hb := BlkR.new (P := P) (ow := .ob s.heap.length) (oc := .oc s.heap.length) (ty := e) h.gnone hc h1 hn
  let g2 : Gh := { g.setO w.heap.size (.ob s.heap.length) with ρ := fun id => if id = s.heap.length then some w.heap.size else if id = s.heap.length + 1 then some ws.length else g.ρ id }
  have hle : GhLe (g.setO w.heap.size (.ob s.heap.length)) g2 := ⟨fun _ _ _ h => h, fun id b hid => by
    have := h.rho id b hid
    simp [g2, show id ≠ s.heap.length by omega, show id ≠ s.heap.length + 1 by omega]; exact hid⟩
  have hk : ∀ K, Kept (g.setO w.heap.size (.ob s.heap.length)) (w.alloc (.cells ws.toArray e)) g2 (w.alloc (.cells ws.toArray e)) K := fun K b _ => ⟨rfl, rfl, fun _ => rfl⟩
  refine ⟨g2, q1.trans ⟨hle, fun b hb => ⟨hb, rfl, fun _ => rfl⟩, Nat.le_refl _, rfl, rfl⟩, ?_, by simp [g2], by simp [g2]⟩
  refine ⟨q2.sorted, q2.size, q2.defers, fun t e he => (q2.env t e he).kept hle (hk fun _ => True) trivial trivial (fun _ => trivial), fun id ob hob => ?_, q2.gam, q2.own, q2.glob, fun id b hid => ?_⟩
  · simp only at hob
    by_cases hlt : id < s.heap.length
    · rw [List.getElem?_append_left hlt] at hob
      exact (q2.heap id ob hob).kept hle (hk fun _ => True) (fun _ => trivial) (fun _ => trivial)
    · rw [List.getElem?_append_right (by omega)] at hob
      by_cases e0 : id = s.heap.length
      · subst e0
        simp at hob; subst hob
        obtain ⟨i, z, r1, r2, r3, r4, r5, r6⟩ := okElem_spec hok
        exact ⟨w.heap.size, ws.length, by simp [g2], by simp [g2], hb.kept hle (hk fun _ => True) trivial (fun _ => trivial), ⟨ws.toArray, heap_alloc_new w _, by simp⟩, i, z, r1, by omega, r4, by omega, r6, by rw [r2]; exact hcap⟩
      · obtain ⟨k, hk⟩ : ∃ k, id - s.heap.length = k + 1 := ⟨id - s.heap.length - 1, by omega⟩
        rw [hk] at hob
        cases k with
        | zero => simp at hob; subst hob; trivial
        | succ k => simp at hob
  · simp only [List.length_append, List.length_cons, List.length_nil]
    by_cases e0 : id = s.heap.length
    · omega
    · by_cases e1 : id = s.heap.length + 1
      · omega
      · simp [g2, e0, e1] at hid; have := h.rho id b hid; omega

theorem replicate_get {α : Type} (z : List α) (hz : 0 < z.length) : ∀ (n i : Nat), i < n * z.length → (List.replicate n z).flatten[i]? = z[i % z.length]?
  | 0, i, h => by simp at h
  | n + 1, i, h => by
    rw [List.replicate_succ, List.flatten_cons]
    by_cases hi : i < z.length
    · rw [List.getElem?_append_left hi, Nat.mod_eq_of_lt hi]
    · rw [List.getElem?_append_right (by omega), replicate_get z hz n (i - z.length) (by rw [Nat.add_mul] at h; omega)]
      congr 1
      rw [← Nat.mod_eq_sub_mod (by omega)]

/-- The array of a made slice. -/
def madeArr (m : Nat) (z : Array Value) : Array Value := (Array.range m).map ((if m = 0 then #[] else z)[· % (if m = 0 then #[] else z).size]!)
theorem run_makeSlice_len {t e : TypeId} {i : TypeInfo} {z : Value} {k k' : IntKind} {n : Int} (hu : P.underlying t = some (.slice e)) (hi : P.info? e = some i) (hz : i.zero = some z)
    (hb : i.bytes ≤ 128) (h0 : 0 ≤ n) (h1 : n ≤ M) :
    (Instr.makeSlice t (.int k n) (.int k' n)).run P w = .ok (.slice (some ⟨w.heap.size, 0, none⟩) n.toNat n.toNat) (w.alloc (.cells (madeArr (n.toNat * i.size) z.cells) e)) := by
  have hw := wrap_small h0 h1
  have hM : (M : Int) = 1099511627776 := rfl
  have hbn : ((i.bytes : Nat) : Int) * n ≤ 128 * 1099511627776 := by
    have h2 : ((i.bytes : Nat) : Int) * n ≤ 128 * n := Int.mul_le_mul_of_nonneg_right (by omega) h0
    omega
  have h7 : ¬ (((i.bytes : Nat) : Int) * n > 2 ^ 48) := by
    have : (2 : Int) ^ 48 = 281474976710656 := by decide
    rw [this]; omega
  have h4 : n.toNat * i.bytes ≤ roomBytes := by
    have : ((n.toNat * i.bytes : Nat) : Int) = ((i.bytes : Nat) : Int) * n := by rw [Int.natCast_mul, Int.toNat_of_nonneg h0, Int.mul_comm]
    have h5 : roomBytes = 140737488355328 := by decide
    omega
  have h6 : ¬ (n < 0) := by omega
  simp only [Instr.makeSlice, Sem.run_bind, run_underlying hu, Result.andThen_ok, asInt, asIntOf, Sem.run_pure, typeInfo, run_program, hi, hw]
  simp only [h6, h7, decide_false, Bool.or_false, Bool.false_eq_true, if_false, Int.lt_irrefl]
  unfold madeArr
  by_cases hn0 : n.toNat * i.size = 0
  · simp [askRoom, show ¬ n.toNat * i.bytes > roomBytes by omega, Go.sizeOf, typeInfo, hi, hn0, newRow, newObj, Sem.run]
  · simp [askRoom, show ¬ n.toNat * i.bytes > roomBytes by omega, Go.sizeOf, typeInfo, hi, hn0, newRow, newObj, Sem.run, zeroValue, hz]
theorem madeArr_get {m : Nat} {z : Array Value} (hz : 0 < z.size) {i : Nat} (hi : i < m) : (madeArr m z)[i]? = z[i % z.size]? := by
  have hm : ¬ m = 0 := by omega
  have hlt : i % z.size < z.size := Nat.mod_lt _ hz
  simp [madeArr, hm, hi, hlt]
def chkMks (P : Program) (N : Nat) (o : Oper) (d e : Nat) (z : List AV) (x : Opd) : Bool := dstIs N o d &&
  (match o.op with | .makeSlice t x' y' => chkOpd x' x && chkOpd y' x && elemOk P t e z.length && zeroOk P e z | _ => false)
theorem sim_mks {d e : Nat} {z : List AV} {x : Opd} (h : Rel P gl N g s a w) (hc : chkMks P N o d e z x = true) (he : ev gl s (.mks d e z x) = some s') : Sim1 P gl N o g a w s' := by
  simp only [chkMks, Bool.and_eq_true] at hc
  obtain ⟨hd, hop⟩ := hc
  split at hop
  · rename_i t x' y' ho
    simp only [Bool.and_eq_true] at hop
    obtain ⟨⟨⟨hx, hy⟩, hk⟩, hz⟩ := hop
    obtain ⟨hu, hok⟩ := elemOk_spec hk
    obtain ⟨i, zv, r1, r2, r3, r4, r5, r6⟩ := okElem_spec hok
    obtain ⟨i', v, p1, p2, p3, p4, p5⟩ := zeroOk_spec (g := g) hz
    rw [r1] at p1; simp at p1; subst p1
    rw [r4] at p2; simp at p2; subst p2
    simp only [ev] at he
    split at he
    · rename_i k n hn
      split at he
      · rename_i hb
        obtain ⟨h0, h1⟩ := hb
        have hM : (n : Int) ≤ M := by unfold M; omega
        have ex := (evO_sound h hx hn).int_inv
        have ey := (evO_sound h hy hn).int_inv
        have hrun := run_makeSlice_len (P := P) (w := w) (k := k) (k' := k) hu r1 r4 r6 h0 hM
        have hsz : (madeArr (n.toNat * i.size) zv.cells).size = n.toNat * z.length := by simp [madeArr, r2]
        have hfl : (List.replicate n.toNat z).flatten.length = n.toNat * z.length := by simp
        have hzs : zv.cells.size = z.length := r5
        have hget : ∀ j, j < n.toNat * z.length → (madeArr (n.toNat * i.size) zv.cells)[j]? = zv.cells[j % z.length]? ∧ (List.replicate n.toNat z).flatten[j]? = z[j % z.length]? := fun j hj => by
          refine ⟨?_, replicate_get z r3 _ _ hj⟩
          rw [madeArr_get (by omega) (by rw [r2]; exact hj), hzs]
        have hvr : VRs g (List.replicate n.toNat z).flatten (madeArr (n.toNat * i.size) zv.cells).toList := by
          refine .of_get (by rw [Array.length_toList, hsz, hfl]) fun j c u hc hu => ?_
          have hj : j < n.toNat * z.length := by rw [← hfl]; exact (List.getElem?_eq_some_iff.1 hc).1
          obtain ⟨m1, m2⟩ := hget j hj
          rw [m2] at hc
          rw [Array.getElem?_toList, m1] at hu
          obtain ⟨u', q1, q2⟩ := p3.get.2 _ _ hc
          rw [Array.getElem?_toList, hu] at q1; simp at q1; subst q1; exact q2
        have hone : ∀ u ∈ (madeArr (n.toNat * i.size) zv.cells).toList, u.oneCell' = true := fun u hu => by
          obtain ⟨j, hj, hju⟩ := List.getElem_of_mem hu
          have hj' : j < n.toNat * z.length := by rw [← hsz]; simpa using hj
          have : (madeArr (n.toNat * i.size) zv.cells).toList[j]? = some u := by rw [List.getElem?_eq_getElem hj, hju]
          rw [Array.getElem?_toList, (hget j hj').1] at this
          exact p4 u (List.mem_of_getElem? (by rw [Array.getElem?_toList]; exact this))
        have hno : ∀ c ∈ (List.replicate n.toNat z).flatten, NotOwn c := fun c hc => by
          obtain ⟨l, hl, hcl⟩ := List.mem_flatten.1 hc
          rw [List.eq_of_mem_replicate hl] at hcl
          exact p5 c hcl
        obtain ⟨g', q1, q2, q3, q4⟩ := h.allocBuf hok hvr hone hno (by rw [Array.length_toList, hsz]; exact Nat.mul_le_mul_right _ (by unfold maxLen; omega))
        simp only [dstIs, Bool.and_eq_true, beq_iff_eq, decide_eq_true_eq] at hd
        refine ⟨.slice (some ⟨w.heap.size, 0, none⟩) n.toNat n.toNat, w.alloc (.cells (madeArr (n.toNat * i.size) zv.cells) e), g', .inl ?_, by simpa using q1, ?_⟩
        · simp only [execOp, ho, Sem.run_bind, ex, ey, hrun, Result.andThen_ok, Sem.run_pure]
        · rw [hd.1]
          have := q2.put he hd.2 (v := .slice (some ⟨w.heap.size, 0, none⟩) n.toNat n.toNat) (.sl _ _ _ _ _ _ _ q3 q4 (by rw [Nat.zero_add]; exact (Array.length_toList ▸ hsz).symm) (Nat.le_refl _)) (.of_ne fun _ _ _ h => by simp at h)
          simpa using this
      · cases he
    · cases he
  · cases hop

/-- A literal of any elements, as a heap slice. -/
def chkLitH (P : Program) (N : Nat) (o : Oper) (d e0 sz : Nat) (xs : List Opd) : Bool := chkLitO P N o d e0 sz xs
theorem flatten_cells {xs : List AV} {us : List Value} {sz : Nat} (h : VRs g xs us) (hx : ∀ x ∈ xs, x.cells.length = sz ∧ x.cells.all AV.one = true) :
    VRs g (xs.map fun v : AV => v.cells.map AV.noOwn).flatten (us.map (·.cells.toList)).flatten ∧ (∀ u ∈ (us.map (·.cells.toList)).flatten, u.oneCell' = true) ∧ (∀ u ∈ us, u.cells.size = sz) ∧ (us.map (·.cells.toList)).flatten.length = us.length * sz := by
  induction us generalizing xs with
  | nil => cases h; exact ⟨.nil, by simp, by simp, by simp⟩
  | cons u us ih => cases h with
    | cons x xs _ _ h1 h2 =>
      obtain ⟨i1, i2, i3, i4⟩ := ih h2 fun y hy => hx y (by simp [hy])
      obtain ⟨m1, m2⟩ := hx x (by simp)
      obtain ⟨c1, c2⟩ := h1.cells m2
      have hsz : u.cells.size = sz := by have := c1.get.1; simp at this; omega
      refine ⟨?_, fun v hv => ?_, fun v hv => ?_, ?_⟩
      · simp only [List.map_cons, List.flatten_cons]; exact c1.noOwn.append i1
      · simp only [List.map_cons, List.flatten_cons, List.mem_append] at hv
        rcases hv with hv | hv
        · exact c2 v hv
        · exact i2 v hv
      · rcases List.mem_cons.1 hv with rfl | hv
        · exact hsz
        · exact i3 v hv
      · simp only [List.map_cons, List.flatten_cons, List.length_append, List.length_cons, i4, Array.length_toList, hsz, Nat.add_mul]; omega
theorem sim_litH {d e0 sz : Nat} {xs : List Opd} (h : Rel P gl N g s a w) (hc : chkLitH P N o d e0 sz xs = true) (he : ev gl s (.litH d e0 sz xs) = some s') : Sim1 P gl N o g a w s' := by
  simp only [chkLitH, chkLitO, chkLit, Bool.and_eq_true] at hc
  obtain ⟨⟨hd, hop⟩, hel⟩ := hc
  split at hop
  · rename_i t n ps ho
    simp only [Bool.and_eq_true, beq_iff_eq] at hop
    obtain ⟨⟨⟨rfl, hseq⟩, hxs⟩, hk⟩ := hop
    unfold litOk at hk
    split at hk
    · rename_i e hu
      simp only [Bool.and_eq_true, decide_eq_true_eq] at hk
      obtain ⟨hk1, hk2⟩ := hk
      obtain ⟨i, z, r1, r2, r3, r4, r5, r6⟩ := okElem_spec hk1
      have he0 : e = e0 := by
        unfold litEl at hel
        rw [ho] at hel
        simp only [hu, beq_iff_eq] at hel
        exact hel
      subst he0
      obtain ⟨vs, e1, e2⟩ := bind_some he
      split at e2
      · rename_i hb
        simp only [Bool.and_eq_true, decide_eq_true_eq, List.all_eq_true, beq_iff_eq] at hb
        obtain ⟨⟨hb1, hb2⟩, hb3⟩ := hb
        have hvr := evOs_sound h hxs e1
        have hps : (ps.map fun (i, x) => (i, a.eval x)) = (((ps.toList.map (·.2)).map a.eval).zipIdx.map fun (v, i) => (i, v)).toArray := by
          rw [← seqParts_spec hseq a.eval]; apply Array.ext'; simp
        have hl2 : xs.length = ((ps.toList.map (·.2)).map a.eval).length := by
          simp only [chkOpds, Bool.and_eq_true, beq_iff_eq] at hxs; rw [List.length_map]; exact hxs.1.symm
        generalize (ps.toList.map (·.2)).map a.eval = us at hvr hps hl2
        have hlen := hvr.get.1
        obtain ⟨i1, i2, i3, i4⟩ := flatten_cells hvr fun x hx => ⟨(hb1 x hx).1, by rw [List.all_eq_true]; exact (hb1 x hx).2⟩
        have hrun := run_buildSlice (P := P) (w := w) hu r1 r4 (by omega) (fun v hv => by rw [i3 v hv]; omega) (by
          have h1 : us.length ≤ 1000 := by rw [hlen]; exact hb2
          calc _ ≤ 1000 * 1000 := Nat.mul_le_mul h1 (by omega)
            _ ≤ 2 ^ 24 := by decide)
        obtain ⟨g', q1, q2, q3, q4⟩ := h.allocBuf hk1 i1 i2 (fun c hc => by
          obtain ⟨l, hl, hcl⟩ := List.mem_flatten.1 hc
          obtain ⟨v, _, rfl⟩ := List.mem_map.1 hl
          exact notOwn_map c hcl) (by rw [i4, hlen]; exact Nat.mul_le_mul_right _ (by unfold maxLen; omega))
        simp only [dstIs, Bool.and_eq_true, beq_iff_eq, decide_eq_true_eq] at hd
        refine ⟨.slice (some ⟨w.heap.size, 0, none⟩) us.length us.length, _, g', .inl ?_, q1, ?_⟩
        · simp only [execOp, ho, Sem.run_bind]
          rw [hps, hl2, hrun]; rfl
        · rw [hd.1]
          have hsl : VR g' (.sl s.heap.length 0 vs.length sz) (.slice (some ⟨w.heap.size, 0, none⟩) us.length us.length) := by
            rw [hlen]
            exact VR.sl _ 0 _ _ _ _ vs.length q3 q4 (by rw [i4, Nat.zero_add, hlen]) (Nat.le_refl _)
          exact q2.put e2 hd.2 hsl (.of_ne fun _ _ _ h => by simp at h)
      · cases e2
    · cases hk
  · cases hop
end
end AM
