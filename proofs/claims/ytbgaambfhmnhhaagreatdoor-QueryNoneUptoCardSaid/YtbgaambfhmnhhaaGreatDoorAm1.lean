/- An abstract machine for the program of the seat, and what of the given program it does, part 2 of 4. Conditions: none. -/
import Derived.Maps.Keyed
import Derived.DeepKeys4
import Derived.Maps.RangeRun
import Derived.Lib.UnsafeStr
import Derived.Lib.Builder
import Derived.Test.YtbgaambfhmnhhaaGreatDoorAm0
/-! The simulation of immutable boxes, of arrays' addresses, of comparisons with nil. -/
namespace AM
open Go
section
variable {P : Program} {gl : Glob} {N : Nat} {g g' : Gh} {s s' : St} {a : Act} {w w' : World} {o : Oper}

theorem pure1_one {c : AV} (h : c.pure1 = true) : c.one = true := by
  cases c <;> first | rfl | simp [AV.pure1] at h
theorem sim_boxI {d : Nat} {x : Opd} (h : Rel P gl N g s a w) (hc : chkBox N o d x = true) (he : ev gl s (.boxI d x) = some s') : Sim1 P gl N o g a w s' := by
  simp only [chkBox, Bool.and_eq_true] at hc
  obtain ⟨hd, hop⟩ := hc
  split at hop
  · rename_i e x' ho
    obtain ⟨u, h1, h2⟩ := bind_some he
    split at h2
    · rename_i hp
      simp only [dstIs, Bool.and_eq_true, beq_iff_eq, decide_eq_true_eq] at hd
      have hone : u.cells.all AV.one = true := by
        rw [List.all_eq_true] at hp ⊢
        exact fun c hc => pure1_one (hp c hc)
      obtain ⟨p1, p2⟩ := (evO_sound h hop h1).cells hone
      have p3 := p1.pure_prs hp p2
      obtain ⟨q1, q2⟩ := h.allocI (a.eval x').cells e
      have hle := q1.toGhLe
      have hrow : PRc (g.addI w.heap.size (a.eval x').cells).γ w.heap.size 0 u.cells :=
        PRc.of_list (p3.mono hle.γ) fun i v hv => by simpa [Gh.addI] using hv
      refine ⟨ptrTo w.heap.size 0, w.alloc (.cells (a.eval x').cells e), _, .inl ?_, q1, ?_⟩
      · simp only [execOp, ho, Sem.run_bind, run_box, Result.andThen_ok, Sem.run_pure]
      · rw [hd.1]
        exact q2.put h2 hd.2 (.pure _ _ (.cptr _ _ _ hrow)) (notOwn_cptr _).ownR
    · cases h2
  · cases hop

theorem run_equalIn_slcnil (d : Nat) {t e : TypeId} (hu : P.underlying t = some (.slice e)) (b : Option Addr) (n c : Nat) : (Op.equalIn (d + 1) t (.slice b n c) (.slice none 0 0)).run P w = .ok b.isNone w := by
  cases b <;> simp [Op.equalIn, run_underlying hu]
theorem run_equal_slcnil {t e : TypeId} (hu : P.underlying t = some (.slice e)) (b : Option Addr) (n c : Nat) : (Op.equal t (.slice b n c) (.slice none 0 0)).run P w = .ok b.isNone w := run_equalIn_slcnil 9999 hu b n c
def nilSlice : Value → Bool
  | .slice none 0 0 => true
  | _ => false
def chkIsnil (P : Program) (N : Nat) (o : Oper) (d : Nat) (ne : Bool) (x : Opd) : Bool := dstIs N o d &&
  (match o.op with | .binOp op t x' (.const c) _ => decide (op = if ne then .neq else .eql) && chkOpd x' x && nilSlice c && (match P.underlying t with | some (.slice _) => true | _ => false) | _ => false)
theorem sim_isnil {d : Nat} {ne : Bool} {x : Opd} (h : Rel P gl N g s a w) (hc : chkIsnil P N o d ne x = true) (he : ev gl s (.isnil d ne x) = some s') : Sim1 P gl N o g a w s' := by
  simp only [chkIsnil, Bool.and_eq_true] at hc
  obtain ⟨hd, hop⟩ := hc
  split at hop
  · rename_i op t x' c ty ho
    simp only [Bool.and_eq_true, decide_eq_true_eq] at hop
    obtain ⟨⟨⟨hop, hx⟩, hn⟩, hk⟩ := hop
    split at hk
    · rename_i e hu
      have hc : c = .slice none 0 0 := by unfold nilSlice at hn; split at hn <;> first | rfl | cases hn
      subst hc
      have hcst : a.eval (.const (.slice none 0 0)) = .slice none 0 0 := rfl
      have hrun : ∀ b n cp, a.eval x' = .slice b n cp → (execOp a.eval o).run P w = .ok (.value (.bool (if ne then !b.isNone else b.isNone))) w := by
        intro b n cp hv
        cases ne with
        | false =>
          simp only [Bool.false_eq_true, if_false] at hop ⊢; subst hop
          simp only [execOp, ho, hv, hcst, Sem.run_bind]
          have := run_eql (P := P) (w := w) (xo := x') (yo := .const (.slice none 0 0)) (x := .slice b n cp) (y := .slice none 0 0) (t := t) (by simp [eqGuard]) (by simp [binOp]) (run_equal_slcnil hu b n cp)
          simp only [Sem.run_bind] at this
          rw [this]; rfl
        | true =>
          simp only [if_true] at hop ⊢; subst hop
          simp only [execOp, ho, hv, hcst, Sem.run_bind]
          have := run_neq (P := P) (w := w) (xo := x') (yo := .const (.slice none 0 0)) (x := .slice b n cp) (y := .slice none 0 0) (t := t) (by simp [eqGuard]) (by simp [binOp]) (run_equal_slcnil hu b n cp)
          simp only [Sem.run_bind] at this
          rw [this]; rfl
      simp only [ev] at he
      split at he
      · rename_i sz hv
        have hv := (evO_sound h hx hv).nils_inv
        refine .value h hd he (hrun _ _ _ hv) ?_ (notOwn_bool _)
        cases ne <;> exact .pure _ _ (.bool _)
      · rename_i own sz y ys hv
        obtain ⟨base, cap, hv, _, hb⟩ := (evO_sound h hx hv).list_inv
        rcases hb with hb | ⟨b, off, rfl, _⟩
        · cases hb
        refine .value h hd he (hrun _ _ _ hv) ?_ (notOwn_bool _)
        cases ne <;> exact .pure _ _ (.bool _)
      · cases he
    · cases hk
  · cases hop
/-- The type of a literal's elements. -/
def litEl (P : Program) (o : Oper) (e0 : Nat) : Bool := match o.op with
  | .buildSlice t _ _ => (match P.underlying t with | some (.slice e) => e == e0 | _ => false)
  | _ => false
def chkLitO (P : Program) (N : Nat) (o : Oper) (d e0 sz : Nat) (xs : List Opd) : Bool := chkLit P N o d sz xs && litEl P o e0
theorem sim_litO {d e0 sz : Nat} {xs : List Opd} (h : Rel P gl N g s a w) (hc : chkLitO P N o d e0 sz xs = true) (he : ev gl s (.litO d e0 sz xs) = some s') : Sim1 P gl N o g a w s' := by
  simp only [chkLitO, chkLit, Bool.and_eq_true] at hc
  obtain ⟨⟨hd, hop⟩, hel⟩ := hc
  split at hop
  · rename_i t n ps ho
    simp only [Bool.and_eq_true, beq_iff_eq] at hop
    obtain ⟨⟨⟨rfl, hseq⟩, hxs⟩, hk⟩ := hop
    unfold litOk at hk
    split at hk
    · rename_i e hu
      simp only [Bool.and_eq_true, decide_eq_true_eq] at hk
      obtain ⟨hk1, hk2⟩ := hk
      obtain ⟨i, z, r1, r2, r3, r4, r5, r6⟩ := okElem_spec hk1
      obtain ⟨vs, e1, e2⟩ := bind_some he
      split at e2
      · rename_i hb
        simp only [Bool.and_eq_true, decide_eq_true_eq, List.all_eq_true, beq_iff_eq] at hb
        obtain ⟨hb1, hb2⟩ := hb
        have hvr := evOs_sound h hxs e1
        have hps : (ps.map fun (i, x) => (i, a.eval x)) = (((ps.toList.map (·.2)).map a.eval).zipIdx.map fun (v, i) => (i, v)).toArray := by
          rw [← seqParts_spec hseq a.eval]; apply Array.ext'; simp
        have hl2 : xs.length = ((ps.toList.map (·.2)).map a.eval).length := by
          simp only [chkOpds, Bool.and_eq_true, beq_iff_eq] at hxs; rw [List.length_map]; exact hxs.1.symm
        generalize (ps.toList.map (·.2)).map a.eval = us at hvr hps hl2
        have hget := hvr.get
        -- the concrete elements
        have hpr : ∀ (k : Nat) x v, vs[k]? = some x → us[k]? = some v → PR g.γ x.noOwn v ∧ x.noOwn.cells.length = sz ∧ v.cells.size = sz := by
          intro k x v hx hv
          obtain ⟨hp1, hp2⟩ := hb1 x (List.mem_of_getElem? hx)
          obtain ⟨v', q1, q2⟩ := hget.2 k x hx
          rw [hv] at q1; simp at q1; subst q1
          have hp := q2.noOwn.pure_pr hp1
          have hcl : x.noOwn.cells.length = sz := by
            have : x.noOwn.cells.length = x.cells.length := by cases x <;> rfl
            rw [this]; exact hp2
          refine ⟨hp, hcl, ?_⟩
          have hpc := hp.cells
          have : ∀ {cs : List AV} {ws : List Value}, PRs g.γ cs ws → ws.length = cs.length := by
            intro cs ws hh
            induction ws generalizing cs with
            | nil => cases hh; rfl
            | cons w ws ih => cases hh with | cons _ _ _ _ _ _ h3 => simp [ih h3]
          have := this hpc
          simp at this; omega
        have hvsz : ∀ v ∈ us, v.cells.size = i.size := by
          intro v hv
          obtain ⟨k, hk', hkv⟩ := List.getElem_of_mem hv
          have hkl : k < vs.length := by have := hget.1; omega
          have := (hpr k vs[k] v (by simp [hkl]) (by rw [List.getElem?_eq_getElem hk', hkv])).2.2
          omega
        have hrun := run_buildSlice (P := P) (w := w) hu r1 r4 (by omega) hvsz (by
          have h1 : us.length ≤ 1000 := by rw [hget.1]; exact hb2
          calc _ ≤ 1000 * 1000 := Nat.mul_le_mul h1 (by omega)
            _ ≤ 2 ^ 24 := by decide)
        obtain ⟨q1, q2⟩ := h.allocI (us.map (·.cells.toList)).flatten.toArray e
        have hflat : (us.map (·.cells.toList)).flatten.length = us.length * sz := by
          have : ∀ (l : List Value), (∀ v ∈ l, v.cells.size = sz) → (l.map (·.cells.toList)).flatten.length = l.length * sz := by
            intro l
            induction l with
            | nil => simp
            | cons v l ih => intro hl; simp only [List.map_cons, List.flatten_cons, List.length_append, List.length_cons, ih fun v hv => hl v (by simp [hv]), Array.length_toList, hl v (by simp), Nat.add_mul]; omega
          exact this us fun v hv => by rw [hvsz v hv]; exact r2
        have hlen : (vs.map AV.noOwn).length = us.length := by rw [List.length_map]; exact hget.1.symm
        have hrow : PRr (g.addI w.heap.size (us.map (·.cells.toList)).flatten.toArray).γ w.heap.size 0 sz (vs.map AV.noOwn) := by
          refine PRr.of_rows (rows := us.map (·.cells.toList)) (by rw [List.length_map, List.length_map]; exact hget.1.symm) (fun k x r hx hr => ?_) fun k v hv => by simpa [Gh.addI] using hv
          rw [List.getElem?_map] at hx hr
          cases hxk : vs[k]? with
          | none => simp [hxk] at hx
          | some x' =>
            cases hvk : us[k]? with
            | none => simp [hvk] at hr
            | some v' =>
              simp [hxk] at hx; simp only [hvk, Option.map_some, Option.some.injEq] at hr; subst hx hr
              obtain ⟨m1, m2, m3⟩ := hpr k x' v' hxk hvk
              exact ⟨m2, (m1.mono q1.γ).cells, by simpa using m3⟩
        have he0 : e = e0 := by
          unfold litEl at hel
          rw [ho] at hel
          simp only [hu, beq_iff_eq] at hel
          exact hel
        subst he0
        simp only [dstIs, Bool.and_eq_true, beq_iff_eq, decide_eq_true_eq] at hd
        have hfree : PosFree s .junk := ⟨by simp, by simp, by simp, by simp, by simp, by simp⟩
        have hn1 : us.length ≤ 1000 := by rw [hget.1]; exact hb2
        have hvr' : VR (g.addI w.heap.size (us.map (·.cells.toList)).flatten.toArray) (.list (some e) sz (vs.map AV.noOwn)) (.slice (some ⟨w.heap.size, 0, none⟩) us.length us.length) :=
          .own _ _ _ _ (.list_of hlen.symm (by simp; unfold M; omega) (by omega) hrow)
        have hown : OwnR P (g.addI w.heap.size (us.map (·.cells.toList)).flatten.toArray) (w.alloc (.cells (us.map (·.cells.toList)).flatten.toArray e)) .junk (.list (some e) sz (vs.map AV.noOwn)) (.slice (some ⟨w.heap.size, 0, none⟩) us.length us.length) := by
          intro e' sz' ys hy
          simp at hy; obtain ⟨rfl, rfl, rfl⟩ := hy
          refine ⟨i, z, (us.map (·.cells.toList)).flatten, r1, r2, r3, r4, r5, r6, by simp; unfold M; omega, ⟨by rw [hflat, hlen], .inr ⟨w.heap.size, us.length, (us.map (·.cells.toList)).flatten.toArray, by rw [hlen], Nat.zero_le _, heap_alloc_new w _, by omega, by unfold maxLen; omega, by simpa using hflat, ?_⟩⟩, fun b hb => ?_⟩
          · rw [hlen, ← hflat]; exact List.take_length
          · simp [Value.ownBlock] at hb; subst hb
            refine ⟨by simp [Gh.addI], hrow, fun off hoff => ?_⟩
            simp only [Gh.addI, if_true, List.getElem?_toArray]
            rw [List.getElem?_eq_none]; rw [hflat, ← hlen]; exact hoff
        obtain ⟨g', m1, m2⟩ := q2.passTo hfree (by simp) (by simp) hd.2 e2 hvr' hown ⟨_, _, _, rfl⟩
        refine ⟨.slice (some ⟨w.heap.size, 0, none⟩) us.length us.length, _, g', .inl ?_, q1.trans m1, ?_⟩
        · simp only [execOp, ho, Sem.run_bind]
          rw [hps, hl2, hrun]; rfl
        · rw [hd.1]; exact m2
      · cases e2
    · cases hk
  · cases hop
end
end AM
/-! The simulation of arrays' elements and slices. -/
namespace AM
open Go
section
variable {P : Program} {gl : Glob} {N : Nat} {g g' : Gh} {s s' : St} {a : Act} {w w' : World} {o : Oper}

def arrOk (P : Program) (t n sz : Nat) : Bool := match P.underlying t with
  | some (.array m e) => m == n && (match P.info? e with | some f => f.size == sz | none => false)
  | _ => false
theorem arrOk_spec {t n sz : Nat} (h : arrOk P t n sz = true) : ∃ e f, P.underlying t = some (.array n e) ∧ P.info? e = some f ∧ f.size = sz := by
  unfold arrOk at h
  split at h
  · rename_i m e hu
    simp only [Bool.and_eq_true, beq_iff_eq] at h
    obtain ⟨rfl, h⟩ := h
    split at h
    · rename_i f hf; simp at h; exact ⟨e, f, hu, hf, h⟩
    · cases h
  · cases h
theorem run_indexAt_arr {t e n : Nat} {f : TypeInfo} (hu : P.underlying t = some (.array n e)) (hi : P.info? e = some f) (b off : Nat) (k : IntKind) {j : Int} (h0 : 0 ≤ j) (h1 : j < n) :
    (Instr.indexAt t (ptrTo b off) (.int k j)).run P w = .ok (ptrTo b (off + j.toNat * f.size)) w := by
  simp [Instr.indexAt, asIntOf, run_underlying hu, h0, h1, Go.sizeOf, typeInfo, hi, addr_add, ptrTo, Instr.sureAddr]
def chkIaa (P : Program) (N : Nat) (o : Oper) (d : Nat) (x : Opd) (n sz : Nat) (i : Opd) : Bool := dstIs N o d &&
  (match o.op with | .indexAddr t x' i' => chkOpd x' x && chkOpd i' i && arrOk P t n sz | _ => false)
theorem sim_iaa {d n sz : Nat} {x i : Opd} (h : Rel P gl N g s a w) (hc : chkIaa P N o d x n sz i = true) (he : ev gl s (.iaa d x n sz i) = some s') : Sim1 P gl N o g a w s' := by
  simp only [chkIaa, Bool.and_eq_true] at hc
  obtain ⟨hd, hop⟩ := hc
  split at hop
  · rename_i t x' i' ho
    simp only [Bool.and_eq_true] at hop
    obtain ⟨⟨hx, hi⟩, hk⟩ := hop
    obtain ⟨e, f, hu, hf, rfl⟩ := arrOk_spec hk
    have hrun : ∀ b o' k (j : Int), a.eval x' = ptrTo b o' → a.eval i' = .int k j → 0 ≤ j → j < n → (execOp a.eval o).run P w = .ok (.value (ptrTo b (o' + j.toNat * f.size))) w := by
      intro b o' k j e1 e2 h0 h1
      simp only [execOp, ho, Sem.run_bind, e1, e2, run_indexAt_arr hu hf b o' k h0 h1, Result.andThen_ok, Sem.run_pure]
    simp only [ev] at he
    split at he
    · rename_i t' o' k j hp hj
      obtain ⟨b, cs, q1, q2, q3, q4⟩ := adr_sound h hx hp
      split at he
      · rename_i hb
        simp at he; subst he
        exact .addr h hd hb.2.2 q1 q2 (hrun _ _ _ _ q3 (evO_sound h hi hj).int_inv hb.1 hb.2.1)
      · cases he
    · rename_i id o' k j hp hj
      obtain ⟨b, q1, q2⟩ := adr_sound h hx hp
      split at he
      · rename_i hb
        exact .value h hd he (hrun _ _ _ _ q2 (evO_sound h hi hj).int_inv hb.1 hb.2) (.ptr _ _ _ q1) (notOwn_ptr _ _)
      · cases he
    · rename_i cs k j hp hj
      obtain ⟨b, o', q1, q2⟩ := adr_sound h hx hp
      split at he
      · rename_i hb
        exact .value h hd he (hrun _ _ _ _ q1 (evO_sound h hi hj).int_inv hb.1 hb.2.1) (.pure _ _ (.cptr _ _ _ (q2.drop _))) (notOwn_cptr _)
      · cases he
    · cases he
  · cases hop

theorem PRc.one_cells {γ : Gam} {b off : Nat} {c : AV} {cs : List AV} (h : PRc γ b off (c :: cs)) : c.cells = [c] := by
  cases h with
  | cons _ _ _ _ v h1 h2 h3 h4 =>
    cases h3 <;> first | rfl | simp [Value.oneCell'] at h2
theorem chunk_rows {γ : Gam} {b sz : Nat} (hsz : 0 < sz) : ∀ (n off : Nat) (cs : List AV), cs.length = n * sz → PRc γ b off cs → PRr γ b off sz (chunk sz n cs) ∧ (chunk sz n cs).length = n
  | 0, _, _, _, _ => ⟨.nil _ _ _, rfl⟩
  | n + 1, off, cs, hl, hc => by
    have hl' : (cs.drop sz).length = n * sz := by rw [List.length_drop, hl, Nat.add_mul]; omega
    have hge : sz ≤ cs.length := by rw [hl, Nat.add_mul]; omega
    obtain ⟨h1, h2⟩ := chunk_rows hsz n (off + sz) (cs.drop sz) hl' (hc.drop sz)
    simp only [chunk]
    refine ⟨.cons _ _ _ _ _ ?_ ?_ h1, by simp [h2]⟩
    · split
      · rename_i e; subst e
        match cs, hge, hc with
        | c :: cs, _, hc => simp [hc.one_cells]
      · simp [AV.cells]; omega
    · split
      · rename_i e; subst e
        match cs, hge, hc with
        | c :: cs, _, hc => simp only [List.headD_cons, hc.one_cells]; exact hc.take 1
      · exact hc.take sz
theorem run_slice_arr {t e n : Nat} {f : TypeInfo} {b off : Nat} {lo hi : Option Value} {i j : Nat} (hu : P.underlying t = some (.array n e)) (hf : P.info? e = some f)
    (hb : (Instr.sliceBounds false n n lo hi none).run P w = .ok (i, j, n) w) :
    (Instr.sliceAt t (ptrTo b off) lo hi none).run P w = .ok (.slice (some (if n = i then ⟨b, off, none⟩ else (⟨b, off, none⟩ : Addr).add (i * f.size))) (j - i) (n - i)) w := by
  simp only [Instr.sliceAt, Sem.run_bind, run_underlying hu, Result.andThen_ok, Instr.sureAddr, ptrTo, Sem.run_pure, hb, Go.sizeOf, typeInfo, run_program, hf]
def chkSla (P : Program) (N : Nat) (o : Oper) (d : Nat) (x : Opd) (n sz : Nat) (lo hi : Option Opd) : Bool := dstIs N o d && decide (0 < sz) &&
  (match o.op with | .slice t x' lo' hi' none => chkOpd x' x && chkBnd lo' lo && chkBnd hi' hi && arrOk P t n sz | _ => false)
theorem sim_sla {d n sz : Nat} {x : Opd} {lo hi : Option Opd} (h : Rel P gl N g s a w) (hc : chkSla P N o d x n sz lo hi = true) (he : ev gl s (.sla d x n sz lo hi) = some s') : Sim1 P gl N o g a w s' := by
  simp only [chkSla, Bool.and_eq_true, decide_eq_true_eq] at hc
  obtain ⟨⟨hd, hsz⟩, hop⟩ := hc
  split at hop
  · rename_i t x' lo' hi' ho
    simp only [Bool.and_eq_true] at hop
    obtain ⟨⟨⟨hx, hlo⟩, hhi⟩, hk⟩ := hop
    obtain ⟨e, f, hu, hf, rfl⟩ := arrOk_spec hk
    simp only [ev] at he
    split at he
    · rename_i cs hp
      obtain ⟨b, off, q1, q2⟩ := adr_sound h hx hp
      split at he
      · rename_i hn
        split at he
        · rename_i i j hi1 hj1
          split at he
          · rename_i hb
            obtain ⟨h1, h2, h3⟩ := hb
            obtain ⟨hr, hlen⟩ := chunk_rows hsz n off cs hn.1 q2
            have hbd := run_bounds (P := P) (w := w) (cap := n) h false hlo hhi hi1 hj1 h1 h2 h3 (Nat.le_refl _)
            refine .value h hd he (v := .slice (some (if n = i.toNat then ⟨b, off, none⟩ else (⟨b, off, none⟩ : Addr).add (i.toNat * f.size))) (j.toNat - i.toNat) (n - i.toNat)) ?_ ?_ (NotOwn.none _ _)
            · simp only [execOp, ho, Option.map_none, Sem.run_bind, q1, run_slice_arr hu hf hbd, Result.andThen_ok, Sem.run_pure]
            · have hlen' : (((chunk f.size n cs).take j.toNat).drop i.toNat).length = j.toNat - i.toNat := by simp [hlen]; omega
              by_cases hij : j.toNat = i.toNat
              · exact .pure _ _ (.list_nil (by apply List.eq_nil_of_length_eq_zero; omega) (by omega))
              · have hne : ¬ n = i.toNat := by omega
                simp only [hne, if_false, addr_add]
                exact .pure _ _ (.list_of hlen'.symm (by rw [hlen']; unfold M; omega) (by omega) ((hr.take _).drop _))
          · cases he
        · cases he
      · cases he
    · cases he
  · cases hop
end
end AM
/-! The simulation of slices over new heap objects. -/
namespace AM
open Go
section
variable {P : Program} {gl : Glob} {N : Nat} {g g' : Gh} {s s' : St} {a : Act} {w w' : World} {o : Oper}

/-- A new heap slice. -/
theorem Rel.allocBuf (h : Rel P gl N g s a w) {cs : List AV} {ws : List Value} {e sz : Nat} (hok : okElem P e sz = true) (hc : VRs g cs ws) (h1 : ∀ v ∈ ws, v.oneCell' = true) (hn : ∀ c ∈ cs, NotOwn c) (hcap : ws.length ≤ maxLen * sz) :
    ∃ g', GLe g w g' (w.alloc (.cells ws.toArray e)) ∧ Rel P gl N g' { s with heap := s.heap ++ [AObj.buf e cs, .dead] } a (w.alloc (.cells ws.toArray e)) ∧ g'.ρ s.heap.length = some w.heap.size ∧
      g'.ρ (s.heap.length + 1) = some ws.length := by
  obtain ⟨q1, q2⟩ := h.alloc (.cells ws.toArray e) (.ob s.heap.length)
  have hb := BlkR.new (P := P) (ow := .ob s.heap.length) (oc := .oc s.heap.length) (ty := e) h.gnone hc h1 hn
  let g2 : Gh := { g.setO w.heap.size (.ob s.heap.length) with ρ := fun id => if id = s.heap.length then some w.heap.size else if id = s.heap.length + 1 then some ws.length else g.ρ id }
  have hle : GhLe (g.setO w.heap.size (.ob s.heap.length)) g2 := ⟨fun _ _ _ h => h, fun id b hid => by
    have := h.rho id b hid
    simp [g2, show id ≠ s.heap.length by omega, show id ≠ s.heap.length + 1 by omega]; exact hid⟩
  have hk : ∀ K, Kept (g.setO w.heap.size (.ob s.heap.length)) (w.alloc (.cells ws.toArray e)) g2 (w.alloc (.cells ws.toArray e)) K := fun K b _ => ⟨rfl, rfl, fun _ => rfl⟩
  refine ⟨g2, q1.trans ⟨hle, fun b hb => ⟨hb, rfl, fun _ => rfl⟩, Nat.le_refl _, rfl, rfl⟩, ?_, by simp [g2], by simp [g2]⟩
  refine ⟨q2.sorted, q2.size, q2.defers, fun t e he => (q2.env t e he).kept hle (hk fun _ => True) trivial trivial (fun _ => trivial), fun id ob hob => ?_, q2.gam, q2.own, q2.glob, fun id b hid => ?_⟩
  · simp only at hob
    by_cases hlt : id < s.heap.length
    · rw [List.getElem?_append_left hlt] at hob
      exact (q2.heap id ob hob).kept hle (hk fun _ => True) (fun _ => trivial) (fun _ => trivial)
    · rw [List.getElem?_append_right (by omega)] at hob
      by_cases e0 : id = s.heap.length
      · subst e0
        simp at hob; subst hob
        obtain ⟨i, z, r1, r2, r3, r4, r5, r6⟩ := okElem_spec hok
        exact ⟨w.heap.size, ws.length, by simp [g2], by simp [g2], hb.kept hle (hk fun _ => True) trivial (fun _ => trivial), ⟨ws.toArray, heap_alloc_new w _, by simp⟩, i, z, r1, by omega, r4, by omega, r6, by rw [r2]; exact hcap⟩
      · obtain ⟨k, hk⟩ : ∃ k, id - s.heap.length = k + 1 := ⟨id - s.heap.length - 1, by omega⟩
        rw [hk] at hob
        cases k with
        | zero => simp at hob; subst hob; trivial
        | succ k => simp at hob
  · simp only [List.length_append, List.length_cons, List.length_nil]
    by_cases e0 : id = s.heap.length
    · omega
    · by_cases e1 : id = s.heap.length + 1
      · omega
      · simp [g2, e0, e1] at hid; have := h.rho id b hid; omega

theorem replicate_get {α : Type} (z : List α) (hz : 0 < z.length) : ∀ (n i : Nat), i < n * z.length → (List.replicate n z).flatten[i]? = z[i % z.length]?
  | 0, i, h => by simp at h
  | n + 1, i, h => by
    rw [List.replicate_succ, List.flatten_cons]
    by_cases hi : i < z.length
    · rw [List.getElem?_append_left hi, Nat.mod_eq_of_lt hi]
    · rw [List.getElem?_append_right (by omega), replicate_get z hz n (i - z.length) (by rw [Nat.add_mul] at h; omega)]
      congr 1
      rw [← Nat.mod_eq_sub_mod (by omega)]

/-- The array of a made slice. -/
def madeArr (m : Nat) (z : Array Value) : Array Value := (Array.range m).map ((if m = 0 then #[] else z)[· % (if m = 0 then #[] else z).size]!)
theorem run_makeSlice_len {t e : TypeId} {i : TypeInfo} {z : Value} {k k' : IntKind} {n : Int} (hu : P.underlying t = some (.slice e)) (hi : P.info? e = some i) (hz : i.zero = some z)
    (hb : i.bytes ≤ 128) (h0 : 0 ≤ n) (h1 : n ≤ M) :
    (Instr.makeSlice t (.int k n) (.int k' n)).run P w = .ok (.slice (some ⟨w.heap.size, 0, none⟩) n.toNat n.toNat) (w.alloc (.cells (madeArr (n.toNat * i.size) z.cells) e)) := by
  have hw := wrap_small h0 h1
  have hM : (M : Int) = 1099511627776 := rfl
  have hbn : ((i.bytes : Nat) : Int) * n ≤ 128 * 1099511627776 := by
    have h2 : ((i.bytes : Nat) : Int) * n ≤ 128 * n := Int.mul_le_mul_of_nonneg_right (by omega) h0
    omega
  have h7 : ¬ (((i.bytes : Nat) : Int) * n > 2 ^ 48) := by
    have : (2 : Int) ^ 48 = 281474976710656 := by decide
    rw [this]; omega
  have h4 : n.toNat * i.bytes ≤ roomBytes := by
    have : ((n.toNat * i.bytes : Nat) : Int) = ((i.bytes : Nat) : Int) * n := by rw [Int.natCast_mul, Int.toNat_of_nonneg h0, Int.mul_comm]
    have h5 : roomBytes = 140737488355328 := by decide
    omega
  have h6 : ¬ (n < 0) := by omega
  simp only [Instr.makeSlice, Sem.run_bind, run_underlying hu, Result.andThen_ok, asInt, asIntOf, Sem.run_pure, typeInfo, run_program, hi, hw]
  simp only [h6, h7, decide_false, Bool.or_false, Bool.false_eq_true, if_false, Int.lt_irrefl]
  unfold madeArr
  by_cases hn0 : n.toNat * i.size = 0
  · simp [askRoom, show ¬ n.toNat * i.bytes > roomBytes by omega, Go.sizeOf, typeInfo, hi, hn0, newRow, newObj, Sem.run]
  · simp [askRoom, show ¬ n.toNat * i.bytes > roomBytes by omega, Go.sizeOf, typeInfo, hi, hn0, newRow, newObj, Sem.run, zeroValue, hz]
theorem madeArr_get {m : Nat} {z : Array Value} (hz : 0 < z.size) {i : Nat} (hi : i < m) : (madeArr m z)[i]? = z[i % z.size]? := by
  have hm : ¬ m = 0 := by omega
  have hlt : i % z.size < z.size := Nat.mod_lt _ hz
  simp [madeArr, hm, hi, hlt]
def chkMks (P : Program) (N : Nat) (o : Oper) (d e : Nat) (z : List AV) (x : Opd) : Bool := dstIs N o d &&
  (match o.op with | .makeSlice t x' y' => chkOpd x' x && chkOpd y' x && elemOk P t e z.length && zeroOk P e z | _ => false)
theorem sim_mks {d e : Nat} {z : List AV} {x : Opd} (h : Rel P gl N g s a w) (hc : chkMks P N o d e z x = true) (he : ev gl s (.mks d e z x) = some s') : Sim1 P gl N o g a w s' := by
  simp only [chkMks, Bool.and_eq_true] at hc
  obtain ⟨hd, hop⟩ := hc
  split at hop
  · rename_i t x' y' ho
    simp only [Bool.and_eq_true] at hop
    obtain ⟨⟨⟨hx, hy⟩, hk⟩, hz⟩ := hop
    obtain ⟨hu, hok⟩ := elemOk_spec hk
    obtain ⟨i, zv, r1, r2, r3, r4, r5, r6⟩ := okElem_spec hok
    obtain ⟨i', v, p1, p2, p3, p4, p5⟩ := zeroOk_spec (g := g) hz
    rw [r1] at p1; simp at p1; subst p1
    rw [r4] at p2; simp at p2; subst p2
    simp only [ev] at he
    split at he
    · rename_i k n hn
      split at he
      · rename_i hb
        obtain ⟨h0, h1⟩ := hb
        have hM : (n : Int) ≤ M := by unfold M; omega
        have ex := (evO_sound h hx hn).int_inv
        have ey := (evO_sound h hy hn).int_inv
        have hrun := run_makeSlice_len (P := P) (w := w) (k := k) (k' := k) hu r1 r4 r6 h0 hM
        have hsz : (madeArr (n.toNat * i.size) zv.cells).size = n.toNat * z.length := by simp [madeArr, r2]
        have hfl : (List.replicate n.toNat z).flatten.length = n.toNat * z.length := by simp
        have hzs : zv.cells.size = z.length := r5
        have hget : ∀ j, j < n.toNat * z.length → (madeArr (n.toNat * i.size) zv.cells)[j]? = zv.cells[j % z.length]? ∧ (List.replicate n.toNat z).flatten[j]? = z[j % z.length]? := fun j hj => by
          refine ⟨?_, replicate_get z r3 _ _ hj⟩
          rw [madeArr_get (by omega) (by rw [r2]; exact hj), hzs]
        have hvr : VRs g (List.replicate n.toNat z).flatten (madeArr (n.toNat * i.size) zv.cells).toList := by
          refine .of_get (by rw [Array.length_toList, hsz, hfl]) fun j c u hc hu => ?_
          have hj : j < n.toNat * z.length := by rw [← hfl]; exact (List.getElem?_eq_some_iff.1 hc).1
          obtain ⟨m1, m2⟩ := hget j hj
          rw [m2] at hc
          rw [Array.getElem?_toList, m1] at hu
          obtain ⟨u', q1, q2⟩ := p3.get.2 _ _ hc
          rw [Array.getElem?_toList, hu] at q1; simp at q1; subst q1; exact q2
        have hone : ∀ u ∈ (madeArr (n.toNat * i.size) zv.cells).toList, u.oneCell' = true := fun u hu => by
          obtain ⟨j, hj, hju⟩ := List.getElem_of_mem hu
          have hj' : j < n.toNat * z.length := by rw [← hsz]; simpa using hj
          have : (madeArr (n.toNat * i.size) zv.cells).toList[j]? = some u := by rw [List.getElem?_eq_getElem hj, hju]
          rw [Array.getElem?_toList, (hget j hj').1] at this
          exact p4 u (List.mem_of_getElem? (by rw [Array.getElem?_toList]; exact this))
        have hno : ∀ c ∈ (List.replicate n.toNat z).flatten, NotOwn c := fun c hc => by
          obtain ⟨l, hl, hcl⟩ := List.mem_flatten.1 hc
          rw [List.eq_of_mem_replicate hl] at hcl
          exact p5 c hcl
        obtain ⟨g', q1, q2, q3, q4⟩ := h.allocBuf hok hvr hone hno (by rw [Array.length_toList, hsz]; exact Nat.mul_le_mul_right _ (by unfold maxLen; omega))
        simp only [dstIs, Bool.and_eq_true, beq_iff_eq, decide_eq_true_eq] at hd
        refine ⟨.slice (some ⟨w.heap.size, 0, none⟩) n.toNat n.toNat, w.alloc (.cells (madeArr (n.toNat * i.size) zv.cells) e), g', .inl ?_, by simpa using q1, ?_⟩
        · simp only [execOp, ho, Sem.run_bind, ex, ey, hrun, Result.andThen_ok, Sem.run_pure]
        · rw [hd.1]
          have := q2.put he hd.2 (v := .slice (some ⟨w.heap.size, 0, none⟩) n.toNat n.toNat) (.sl _ _ _ _ _ _ _ q3 q4 (by rw [Nat.zero_add]; exact (Array.length_toList ▸ hsz).symm) (Nat.le_refl _)) (.of_ne fun _ _ _ h => by simp at h)
          simpa using this
      · cases he
    · cases he
  · cases hop

/-- A literal of any elements, as a heap slice. -/
def chkLitH (P : Program) (N : Nat) (o : Oper) (d e0 sz : Nat) (xs : List Opd) : Bool := chkLitO P N o d e0 sz xs
theorem flatten_cells {xs : List AV} {us : List Value} {sz : Nat} (h : VRs g xs us) (hx : ∀ x ∈ xs, x.cells.length = sz ∧ x.cells.all AV.one = true) :
    VRs g (xs.map fun v : AV => v.cells.map AV.noOwn).flatten (us.map (·.cells.toList)).flatten ∧ (∀ u ∈ (us.map (·.cells.toList)).flatten, u.oneCell' = true) ∧ (∀ u ∈ us, u.cells.size = sz) ∧ (us.map (·.cells.toList)).flatten.length = us.length * sz := by
  induction us generalizing xs with
  | nil => cases h; exact ⟨.nil, by simp, by simp, by simp⟩
  | cons u us ih => cases h with
    | cons x xs _ _ h1 h2 =>
      obtain ⟨i1, i2, i3, i4⟩ := ih h2 fun y hy => hx y (by simp [hy])
      obtain ⟨m1, m2⟩ := hx x (by simp)
      obtain ⟨c1, c2⟩ := h1.cells m2
      have hsz : u.cells.size = sz := by have := c1.get.1; simp at this; omega
      refine ⟨?_, fun v hv => ?_, fun v hv => ?_, ?_⟩
      · simp only [List.map_cons, List.flatten_cons]; exact c1.noOwn.append i1
      · simp only [List.map_cons, List.flatten_cons, List.mem_append] at hv
        rcases hv with hv | hv
        · exact c2 v hv
        · exact i2 v hv
      · rcases List.mem_cons.1 hv with rfl | hv
        · exact hsz
        · exact i3 v hv
      · simp only [List.map_cons, List.flatten_cons, List.length_append, List.length_cons, i4, Array.length_toList, hsz, Nat.add_mul]; omega
theorem sim_litH {d e0 sz : Nat} {xs : List Opd} (h : Rel P gl N g s a w) (hc : chkLitH P N o d e0 sz xs = true) (he : ev gl s (.litH d e0 sz xs) = some s') : Sim1 P gl N o g a w s' := by
  simp only [chkLitH, chkLitO, chkLit, Bool.and_eq_true] at hc
  obtain ⟨⟨hd, hop⟩, hel⟩ := hc
  split at hop
  · rename_i t n ps ho
    simp only [Bool.and_eq_true, beq_iff_eq] at hop
    obtain ⟨⟨⟨rfl, hseq⟩, hxs⟩, hk⟩ := hop
    unfold litOk at hk
    split at hk
    · rename_i e hu
      simp only [Bool.and_eq_true, decide_eq_true_eq] at hk
      obtain ⟨hk1, hk2⟩ := hk
      obtain ⟨i, z, r1, r2, r3, r4, r5, r6⟩ := okElem_spec hk1
      have he0 : e = e0 := by
        unfold litEl at hel
        rw [ho] at hel
        simp only [hu, beq_iff_eq] at hel
        exact hel
      subst he0
      obtain ⟨vs, e1, e2⟩ := bind_some he
      split at e2
      · rename_i hb
        simp only [Bool.and_eq_true, decide_eq_true_eq, List.all_eq_true, beq_iff_eq] at hb
        obtain ⟨⟨hb1, hb2⟩, hb3⟩ := hb
        have hvr := evOs_sound h hxs e1
        have hps : (ps.map fun (i, x) => (i, a.eval x)) = (((ps.toList.map (·.2)).map a.eval).zipIdx.map fun (v, i) => (i, v)).toArray := by
          rw [← seqParts_spec hseq a.eval]; apply Array.ext'; simp
        have hl2 : xs.length = ((ps.toList.map (·.2)).map a.eval).length := by
          simp only [chkOpds, Bool.and_eq_true, beq_iff_eq] at hxs; rw [List.length_map]; exact hxs.1.symm
        generalize (ps.toList.map (·.2)).map a.eval = us at hvr hps hl2
        have hlen := hvr.get.1
        obtain ⟨i1, i2, i3, i4⟩ := flatten_cells hvr fun x hx => ⟨(hb1 x hx).1, by rw [List.all_eq_true]; exact (hb1 x hx).2⟩
        have hrun := run_buildSlice (P := P) (w := w) hu r1 r4 (by omega) (fun v hv => by rw [i3 v hv]; omega) (by
          have h1 : us.length ≤ 1000 := by rw [hlen]; exact hb2
          calc _ ≤ 1000 * 1000 := Nat.mul_le_mul h1 (by omega)
            _ ≤ 2 ^ 24 := by decide)
        obtain ⟨g', q1, q2, q3, q4⟩ := h.allocBuf hk1 i1 i2 (fun c hc => by
          obtain ⟨l, hl, hcl⟩ := List.mem_flatten.1 hc
          obtain ⟨v, _, rfl⟩ := List.mem_map.1 hl
          exact notOwn_map c hcl) (by rw [i4, hlen]; exact Nat.mul_le_mul_right _ (by unfold maxLen; omega))
        simp only [dstIs, Bool.and_eq_true, beq_iff_eq, decide_eq_true_eq] at hd
        refine ⟨.slice (some ⟨w.heap.size, 0, none⟩) us.length us.length, _, g', .inl ?_, q1, ?_⟩
        · simp only [execOp, ho, Sem.run_bind]
          rw [hps, hl2, hrun]; rfl
        · rw [hd.1]
          have hsl : VR g' (.sl s.heap.length 0 vs.length sz) (.slice (some ⟨w.heap.size, 0, none⟩) us.length us.length) := by
            rw [hlen]
            exact VR.sl _ 0 _ _ _ _ vs.length q3 q4 (by rw [i4, Nat.zero_add, hlen]) (Nat.le_refl _)
          exact q2.put e2 hd.2 hsl (.of_ne fun _ _ _ h => by simp at h)
      · cases e2
    · cases hk
  · cases hop
end
end AM
/-! The simulation of maps: keys. -/
namespace AM
open Go Go.Maps
section
variable {P : Program} {gl : Glob} {N : Nat} {g g' : Gh} {s s' : St} {a : Act} {w w' : World} {o : Oper} {γ γ' : Gam}

def keyFields (P : Program) : List Nat → List Field → Nat → Bool
  | [], [], _ => true
  | k :: ks, f :: fs, i => f.name != "_" && f.offset == i && P.cellsOf f.type == 1 && (match P.underlying f.type with | some .string => k == 1 | some .bool => k == 2 | _ => false) && keyFields P ks fs (i + 1)
  | _, _, _ => false
/-- Key types whose laws are known, with the kinds of their cells. -/
def mapKeyOk (P : Program) (k : TypeId) (ks : List Nat) : Bool := match P.underlying k with
  | some .string => ks == [1]
  | some (.struct fs) => laidOutB P && decide (k < P.types.size) && P.keyTypeAt 3 k && P.keyType k && ks.length != 1 && P.cellsOf k == ks.length && keyFields P ks fs.toList 0
  | _ => false
theorem mapKeyOk_keyed {k : TypeId} {ks : List Nat} (h : mapKeyOk P k ks = true) : Keyed P k := by
  unfold mapKeyOk at h
  split at h
  · rename_i hu; exact string_keyed hu
  · rename_i fs hu
    simp only [Bool.and_eq_true, decide_eq_true_eq] at h
    exact Keyed.of_law (deep_law_laid h.1.1.1.1.1.1 (by omega) h.1.1.1.1.1.2 h.1.1.1.1.2 (by simp [hu]))
  · cases h
theorem keyFit_str {ks : List Nat} {l : List UInt8} (h : keyFit ks (.str l) = true) : ks = [1] := by simpa [keyFit] using h
theorem keyFit_inv {ks : List Nat} {x : AV} (h : keyFit ks x = true) : (∃ l, x = .str l ∧ ks = [1]) ∨ ∃ cs, x = .agg cs ∧ ks.length ≠ 1 ∧ cs.map knd = ks ∧ ∀ k ∈ ks, k = 1 ∨ k = 2 := by
  cases x <;> simp [keyFit] at h
  · exact .inl ⟨_, rfl, h⟩
  · exact .inr ⟨_, rfl, h.1.1, h.2, h.1.2⟩
theorem knd_str {c : AV} (h : knd c = 1) : ∃ l, c = .str l := by cases c <;> simp [knd] at h; exact ⟨_, rfl⟩
theorem knd_bool {c : AV} (h : knd c = 2) : ∃ b, c = .bool b := by cases c <;> simp [knd] at h; exact ⟨_, rfl⟩
theorem mk_inj {a b : List UInt8} : ((⟨a.toArray⟩ : ByteArray) = ⟨b.toArray⟩) ↔ a = b := by simp
/-- Keys' cells are equal where their values are. -/
theorem eqs_iff : ∀ {ks : List Nat} {xs ys : List AV} {us vs : List Value}, xs.map knd = ks → ys.map knd = ks → (∀ k ∈ ks, k = 1 ∨ k = 2) → PRs γ xs us → PRs γ' ys vs →
    (∃ b, eqs xs ys = some b) ∧ (eqs xs ys = some true ↔ us = vs) ∧ (xs = ys ↔ us = vs) := by
  intro ks
  induction ks with
  | nil =>
    intro xs ys us vs hx hy _ h1 h2
    simp at hx hy; subst hx hy
    cases h1; cases h2
    simp [eqs]
  | cons k ks ih =>
    intro xs ys us vs hx hy hk h1 h2
    cases xs with
    | nil => simp at hx
    | cons x xs =>
      cases ys with
      | nil => simp at hy
      | cons y ys =>
        simp at hx hy
        cases h1 with
        | cons _ _ u us _ p1 p2 =>
          cases h2 with
          | cons _ _ v vs _ q1 q2 =>
            obtain ⟨⟨b, i0⟩, i1, i2⟩ := ih hx.2 hy.2 (fun k hk' => hk k (by simp [hk'])) p2 q2
            rcases hk k (by simp) with rfl | rfl
            · obtain ⟨l, rfl⟩ := knd_str hx.1
              obtain ⟨m, rfl⟩ := knd_str hy.1
              cases p1; cases q1
              refine ⟨⟨_, by simp [eqs, eq1, i0]; rfl⟩, ?_, by simp [i2]⟩
              simp only [eqs, eq1, i0]
              rw [i0] at i1
              simp only [Option.some.injEq] at i1
              simp [i1]
            · obtain ⟨l, rfl⟩ := knd_bool hx.1
              obtain ⟨m, rfl⟩ := knd_bool hy.1
              cases p1; cases q1
              refine ⟨⟨_, by simp [eqs, eq1, i0]; rfl⟩, ?_, by simp [i2]⟩
              simp only [eqs, eq1, i0]
              rw [i0] at i1
              simp only [Option.some.injEq] at i1
              simp [i1]
theorem keyEq_vals {ks : List Nat} {x y : AV} {u v : Value} (hx : keyFit ks x = true) (hy : keyFit ks y = true) (h1 : PR γ x u) (h2 : PR γ' y v) : (keyEq x y = true ↔ u = v) ∧ (x = y ↔ u = v) := by
  rcases keyFit_inv hx with ⟨l, rfl, rfl⟩ | ⟨cs, rfl, h3, h4, h5⟩
  · rcases keyFit_inv hy with ⟨m, rfl, _⟩ | ⟨cs, rfl, h, _⟩
    · cases h1; cases h2
      simp [keyEq]
    · simp at h
  · rcases keyFit_inv hy with ⟨m, rfl, h⟩ | ⟨ds, rfl, q3, q4, _⟩
    · subst h; simp at h3
    · cases h1 with
      | agg _ us p1 =>
        cases h2 with
        | agg _ vs p2 =>
          obtain ⟨⟨b, i0⟩, i1, i2⟩ := eqs_iff h4 q4 h5 p1 p2
          simp only [keyEq, beq_iff_eq, i1, Value.agg.injEq]
          simp [i2]
theorem keyEq_iff {ks : List Nat} {x y : AV} (hx : keyFit ks x = true) (hy : keyFit ks y = true) {u v : Value} (h1 : PR γ x u) (h2 : PR γ' y v) : keyEq x y = true ↔ x = y := by
  rw [(keyEq_vals hx hy h1 h2).1, (keyEq_vals hx hy h1 h2).2]
/-- A key's value needs no memory. -/
theorem VR.key {ks : List Nat} {x : AV} {v : Value} (hx : keyFit ks x = true) (h : VR g x v) : PR γ x v := by
  rcases keyFit_inv hx with ⟨l, rfl, rfl⟩ | ⟨cs, rfl, h3, h4, h5⟩
  · obtain ⟨rfl, hl⟩ := h.str_inv; exact .str _ hl
  · obtain ⟨ws, rfl, h1, h2⟩ := h.agg_inv
    refine .agg _ _ ?_
    subst h4
    clear h3 hx h
    revert h5 h1
    induction ws generalizing cs with
    | nil => intro h1 h5; cases h1; exact .nil
    | cons w ws ih =>
      intro h1 h5
      cases h1 with
      | cons c cs _ _ q1 q2 =>
        refine .cons _ _ _ _ (h2 w (by simp)) ?_ (ih cs (fun x hx => h2 x (by simp [hx])) q2 (fun k hk => h5 k (List.mem_cons_of_mem _ hk)))
        rcases h5 (knd c) (by simp) with hk | hk
        · obtain ⟨l, rfl⟩ := knd_str hk
          obtain ⟨rfl, h⟩ := q1.str_inv; exact .str _ h
        · obtain ⟨l, rfl⟩ := knd_bool hk
          have := q1.bool_inv; subst this; exact .bool _
theorem keyLits_some {n : Nat} {full : List Value} : ∀ (fs : List Field) (ks : List Nat) (i : Nat) (cs : List AV) (ws : List Value), keyFields P ks fs i = true → full.drop i = ws → PRs γ cs ws → cs.map knd = ks →
    ∃ r, (fs.mapM fun f => P.keyLits (n + 1) f.type ((full.drop f.offset).take (P.cellsOf f.type))) = some r := by
  intro fs
  induction fs with
  | nil => intro ks i cs ws h _ _ _; exact ⟨[], by simp⟩
  | cons f fs ih =>
    intro ks i cs ws h hw hp hk
    cases ks with
    | nil => simp [keyFields] at h
    | cons k ks =>
      simp only [keyFields, Bool.and_eq_true, beq_iff_eq] at h
      obtain ⟨⟨⟨⟨h1, h2⟩, h3⟩, h4⟩, h5⟩ := h
      cases cs with
      | nil => simp at hk
      | cons c cs =>
        simp at hk
        cases hp with
        | cons _ _ v ws hv p1 p2 =>
          have hnext : full.drop (i + 1) = ws := by
            rw [← List.drop_drop, hw]; simp
          obtain ⟨r, hr⟩ := ih ks (i + 1) cs ws h5 hnext p2 hk.2
          have hcell : (full.drop f.offset).take (P.cellsOf f.type) = [v] := by rw [h2, h3, hw]; simp
          have : ∃ l, P.keyLits (n + 1) f.type [v] = some l := by
            split at h4
            · rename_i hu
              simp at h4
              obtain ⟨l, rfl⟩ := knd_str (hk.1.trans h4)
              cases p1 with
              | str _ hl =>
                refine ⟨_, by simp only [Program.keyLits, hu]; rw [if_pos]; simp [ByteArray.size]; unfold M at hl; unfold maxLen; omega⟩
            · rename_i hu
              simp at h4
              obtain ⟨l, rfl⟩ := knd_bool (hk.1.trans h4)
              cases p1
              exact ⟨_, by simp only [Program.keyLits, hu]; rfl⟩
            · cases h4
          obtain ⟨l, hl⟩ := this
          refine ⟨l :: r, ?_⟩
          rw [List.mapM_cons, hcell, hl]
          simp only [Option.bind_eq_bind, Option.bind_some, hr]
          rfl
theorem keyFields_names : ∀ {fs : List Field} {ks : List Nat} {i : Nat}, keyFields P ks fs i = true → ∀ f ∈ fs, (f.name != "_") = true
  | [], _, _, _, _, h => by simp at h
  | f :: fs, [], _, h, _, _ => by simp [keyFields] at h
  | f :: fs, k :: ks, i, h, f', hf => by
    simp only [keyFields, Bool.and_eq_true, beq_iff_eq] at h
    rcases List.mem_cons.1 hf with rfl | hf
    · exact h.1.1.1.1
    · exact keyFields_names h.2 f' hf
theorem PRs.len : ∀ {ws : List Value} {cs : List AV}, PRs γ cs ws → ws.length = cs.length
  | [], _, h => by cases h; rfl
  | _ :: _, _, .cons _ _ _ _ _ _ h => by simp [PRs.len h]
/-- What fits reads as a key. -/
theorem keyOf_fit {k : TypeId} {ks : List Nat} {x : AV} {v : Value} (hk : mapKeyOk P k ks = true) (hx : keyFit ks x = true) (h : PR γ x v) : ∃ l, keyOf P k v = some l := by
  unfold mapKeyOk at hk
  split at hk
  · rename_i hu
    simp at hk; subst hk
    rcases keyFit_inv hx with ⟨l, rfl, _⟩ | ⟨cs, rfl, h, _⟩
    · cases h with
      | str _ hl => exact ⟨_, by simp only [keyOf, hu, mapKey]; rw [if_pos]; simp [ByteArray.size]; unfold M at hl; unfold maxLen; omega⟩
    · simp at h
  · rename_i fs hu
    simp only [Bool.and_eq_true, decide_eq_true_eq, beq_iff_eq, bne_iff_ne] at hk
    obtain ⟨⟨⟨⟨⟨⟨_, h2⟩, _⟩, h4⟩, h5⟩, h6⟩, h7⟩ := hk
    rcases keyFit_inv hx with ⟨l, rfl, h'⟩ | ⟨cs, rfl, _, q1, q2⟩
    · subst h'; simp at h5
    · cases h with
      | agg _ ws hp =>
        have hlen : ws.length = ks.length := by
          rw [← q1, List.length_map]; exact hp.len
        obtain ⟨m, hm⟩ : ∃ m, P.types.size = m + 1 := ⟨P.types.size - 1, by have : 0 < P.types.size := Nat.lt_of_le_of_lt (Nat.zero_le _) h2; exact (Nat.succ_pred_eq_of_pos this).symm⟩
        obtain ⟨r, hr⟩ := keyLits_some (P := P) (n := m) (full := ws) fs.toList ks 0 cs ws h7 rfl hp q1
        have hf : (Value.agg ws.toArray).formed P k = true := by simp [Value.formed, hu, hlen, h6]
        have hn : fs.all (·.name != "_") = true := by
          rw [← Array.all_toList, List.all_eq_true]
          exact keyFields_names h7
        refine ⟨_, by
          simp only [keyOf, hu, h4, hf, Bool.and_self, if_true]
          show (P.keyLits (P.types.size + 1) k ws.toArray.toList).map _ = _
          simp only [Program.keyLits, hu]
          rw [if_pos ⟨by rw [hlen, h6], hn⟩, hm, hr]
          rfl⟩
  · cases hk
end
end AM
/-! The simulation of maps: new ones, lookups. -/
namespace AM
open Go Go.Maps
section
variable {P : Program} {gl : Glob} {N : Nat} {g g' : Gh} {s s' : St} {a : Act} {w w' : World} {o : Oper} {γ γ' : Gam}

/-- A new object over a new block. -/
theorem Rel.allocO (h : Rel P gl N g s a w) (x : Obj) (ob : AObj)
    (hob : ∀ g', (∀ b, g'.Ω b = (g.setO w.heap.size (.ob s.heap.length)).Ω b) → GhLe g g' → g'.ρ s.heap.length = some w.heap.size → ObjR P g' (w.alloc x) s.heap.length ob) :
    ∃ g', GLe g w g' (w.alloc x) ∧ Rel P gl N g' { s with heap := s.heap ++ [ob] } a (w.alloc x) ∧ g'.ρ s.heap.length = some w.heap.size := by
  obtain ⟨q1, q2⟩ := h.alloc x (.ob s.heap.length)
  let g2 : Gh := { g.setO w.heap.size (.ob s.heap.length) with ρ := fun id => if id = s.heap.length then some w.heap.size else g.ρ id }
  have hle : GhLe (g.setO w.heap.size (.ob s.heap.length)) g2 := ⟨fun _ _ _ h => h, fun id b hid => by
    have := h.rho id b hid
    simp [g2, show id ≠ s.heap.length by omega]; exact hid⟩
  have hk : ∀ K, Kept (g.setO w.heap.size (.ob s.heap.length)) (w.alloc x) g2 (w.alloc x) K := fun K b _ => ⟨rfl, rfl, fun _ => rfl⟩
  have hall : GLe g w g2 (w.alloc x) := q1.trans ⟨hle, fun b hb => ⟨hb, rfl, fun _ => rfl⟩, Nat.le_refl _, rfl, rfl⟩
  refine ⟨g2, hall, ?_, by simp [g2]⟩
  refine ⟨q2.sorted, q2.size, q2.defers, fun t e he => (q2.env t e he).kept hle (hk fun _ => True) trivial trivial (fun _ => trivial), fun id ob' hob' => ?_, q2.gam, q2.own, q2.glob, fun id b hid => ?_⟩
  · simp only at hob'
    rcases Nat.lt_trichotomy id s.heap.length with hlt | rfl | hgt
    · rw [List.getElem?_append_left hlt] at hob'
      exact (q2.heap id ob' hob').kept hle (hk fun _ => True) (fun _ => trivial) (fun _ => trivial)
    · simp at hob'; subst hob'
      exact hob g2 (fun _ => rfl) hall.toGhLe (by simp [g2])
    · rw [List.getElem?_eq_none (by simp; omega)] at hob'; cases hob'
  · simp only [List.length_append, List.length_singleton]
    by_cases e : id = s.heap.length
    · omega
    · simp [g2, e] at hid; have := h.rho id b hid; omega

theorem notOwn_mapv (id : Nat) : NotOwn (.map id) := fun _ _ _ h => by simp at h
def chkMkmap (N : Nat) (o : Oper) (d : Nat) : Bool := dstIs N o d && (match o.op with | .makeMap _ none => true | _ => false)
theorem run_makeMap {t : TypeId} : (Instr.makeMap t none).run P w = .ok (.map (some w.heap.size)) (w.alloc (.map #[] 0)) := by
  simp [Instr.makeMap, newObj, Sem.run]
theorem sim_mkmap {d : Nat} (h : Rel P gl N g s a w) (hc : chkMkmap N o d = true) (he : ev gl s (.mkmap d) = some s') : Sim1 P gl N o g a w s' := by
  simp only [chkMkmap, Bool.and_eq_true] at hc
  obtain ⟨hd, hop⟩ := hc
  split at hop
  · rename_i t ho
    simp only [ev] at he
    simp only [dstIs, Bool.and_eq_true, beq_iff_eq, decide_eq_true_eq] at hd
    obtain ⟨g', q1, q2, q3⟩ := h.allocO (.map #[] 0) (.map 0 []) (fun g' h1 h2 h3 =>
      ⟨w.heap.size, h3, #[], heap_alloc_new w _, by rw [h1]; simp [Gh.setO], ⟨[], .nil, rfl, by simp⟩, by simp, by simp, by simp, [], by simp⟩)
    refine ⟨.map (some w.heap.size), w.alloc (.map #[] 0), g', .inl ?_, q1, ?_⟩
    · simp only [execOp, ho, Option.map_none, Sem.run_bind, run_makeMap, Result.andThen_ok, Sem.run_pure]
    · rw [hd.1]
      exact q2.put he hd.2 (.map _ _ q3) (notOwn_mapv _).ownR
  · cases hop

/-- What a map's block holds at a key. -/
theorem mapGet_none {es : List (AV × AV)} {x : AV} (h : ∀ e ∈ es, keyEq x e.1 = false) : mapGet es x = none := by
  induction es with
  | nil => rfl
  | cons e r ih =>
    obtain ⟨k, v⟩ := e
    have := h (k, v) (by simp)
    simp only at this
    simp [mapGet, this, ih fun e he => h e (by simp [he])]
theorem mapGet_some {es : List (AV × AV)} {x k v : AV} (he : (k, v) ∈ es) (hk : keyEq x k = true) (hu : ∀ e ∈ es, keyEq x e.1 = true → e.1 = k) (hp : es.Pairwise fun x y => x.1 ≠ y.1) : mapGet es x = some v := by
  induction es with
  | nil => simp at he
  | cons e r ih =>
    obtain ⟨k', v'⟩ := e
    obtain ⟨hp1, hp2⟩ := List.pairwise_cons.1 hp
    simp only [mapGet]
    by_cases h1 : keyEq x k' = true
    · have := hu (k', v') (by simp) h1
      simp only at this; subst this
      rcases List.mem_cons.1 he with h2 | h2
      · simp at h2; simp [h1, h2]
      · exact absurd (rfl : k' = k') (hp1 (k', v) h2)
    · simp only [h1, Bool.false_eq_true, if_false]
      rcases List.mem_cons.1 he with h2 | h2
      · simp at h2; rw [h2.1] at hk; exact absurd hk h1
      · exact ih h2 (fun e he => hu e (by simp [he])) hp2

theorem headFit_all {ks ks' : List Nat} {es : List (AV × AV)} (h : headFit ks es = true) (h' : ∀ e ∈ es, keyFit ks' e.1 = true) : ∀ e ∈ es, keyFit ks e.1 = true := by
  cases es with
  | nil => simp
  | cons e r =>
    obtain ⟨k, v⟩ := e
    have h1 := h' (k, v) (by simp)
    simp only [headFit] at h
    have : ks = ks' := by
      rcases keyFit_inv h with ⟨l, rfl, h2⟩ | ⟨cs, rfl, _, h2, _⟩
      · exact h2.trans (keyFit_str h1).symm
      · rcases keyFit_inv h1 with ⟨l, h, _⟩ | ⟨cs', h, _, h3, _⟩
        · cases h
        · cases h; exact h2.symm.trans h3
    subst this
    exact h'

/-- The entries of a map's block, side by side. -/
structure MapAt (P : Program) (g : Gh) (w : World) (id b n : Nat) (es : List (AV × AV)) (ks : List Nat) (arr : Array MapEntry) (es' : List (AV × AV)) : Prop where
  blk : w.heap[b]? = some (.map arr n)
  own : g.Ω b = .ob id
  perm : es'.Perm es
  len : es'.length = arr.toList.length
  at_ : ∀ (i : Nat) e m, es'[i]? = some e → arr.toList[i]? = some m → EntryR P g w id e m
  born : arr.toList.Pairwise (fun x y => x.born < y.born)
  lt : ∀ m ∈ arr.toList, m.born < n
  uniq : es.Pairwise (fun x y => keyEq x.1 y.1 = false)
  fit : ∀ e ∈ es, keyFit ks e.1 = true
theorem MapR.at {id b n : Nat} {es : List (AV × AV)} {ks : List Nat} (h : MapR P g w id b n es) (hf : headFit ks es = true) : ∃ arr es', MapAt P g w id b n es ks arr es' := by
  obtain ⟨arr, h1, h2, ⟨es', h3, h4, h5⟩, h6, h7, h8, ks', h9⟩ := h
  exact ⟨arr, es', h1, h2, h3, h4, h5, h6, h7, h8, headFit_all hf h9⟩
theorem MapAt.mapR {id b n : Nat} {es es' : List (AV × AV)} {ks : List Nat} {arr : Array MapEntry} (h : MapAt P g w id b n es ks arr es') : MapR P g w id b n es :=
  ⟨arr, h.blk, h.own, ⟨es', h.perm, h.len, h.at_⟩, h.born, h.lt, h.uniq, ks, h.fit⟩
section
variable {id b n : Nat} {es es' : List (AV × AV)} {ks : List Nat} {arr : Array MapEntry}
theorem MapAt.other (h : MapAt P g w id b n es ks arr es') {m : MapEntry} (hm : m ∈ arr.toList) : ∃ (i : Nat) (e : AV × AV), es'[i]? = some e ∧ arr.toList[i]? = some m ∧ e ∈ es ∧ EntryR P g w id e m := by
  obtain ⟨i, hi, hmi⟩ := List.getElem_of_mem hm
  have hl : i < es'.length := by rw [h.len]; exact hi
  have h1 : es'[i]? = some es'[i] := by simp [hl]
  have h2 : arr.toList[i]? = some m := by rw [List.getElem?_eq_getElem hi, hmi]
  exact ⟨i, _, h1, h2, h.perm.mem_iff.1 (List.mem_of_getElem? h1), h.at_ i _ _ h1 h2⟩
theorem MapAt.other' (h : MapAt P g w id b n es ks arr es') {e : AV × AV} (he : e ∈ es) : ∃ (i : Nat) (m : MapEntry), es'[i]? = some e ∧ arr.toList[i]? = some m ∧ EntryR P g w id e m := by
  obtain ⟨i, hi, hei⟩ := List.getElem_of_mem (h.perm.mem_iff.2 he)
  have hl : i < arr.toList.length := by rw [← h.len]; exact hi
  have h1 : es'[i]? = some e := by rw [List.getElem?_eq_getElem hi, hei]
  have h2 : arr.toList[i]? = some arr.toList[i] := List.getElem?_eq_getElem hl
  exact ⟨i, _, h1, h2, h.at_ i _ _ h1 h2⟩
theorem MapAt.ne (h : MapAt P g w id b n es ks arr es') : es.Pairwise fun x y => x.1 ≠ y.1 := by
  refine List.Pairwise.imp_of_mem ?_ h.uniq
  intro x y hx hy hxy e
  obtain ⟨_, m, _, _, q1, _⟩ := h.other' hx
  have := (keyEq_iff (h.fit x hx) (h.fit y hy) (VR.key (γ := g.γ) (h.fit x hx) q1) (VR.key (γ := g.γ) (h.fit y hy) (e ▸ q1))).2 e
  rw [this] at hxy; cases hxy
/-- The entry at a key: on both sides, or on none. -/
theorem MapAt.find (h : MapAt P g w id b n es ks arr es') {kt : TypeId} (hk : mapKeyOk P kt ks = true) {kk : AV} {v : Value} (hf : keyFit ks kk = true) (hv : VR g kk v) :
    (∀ em, (Instr.checkKey em 10000 kt v).run P w = .ok () w) ∧
    (((Instr.findKey kt v arr.toList).run P w = .ok none w ∧ mapGet es kk = none ∧ (∀ e ∈ es, keyEq kk e.1 = false) ∧ ∀ m ∈ arr.toList, m.key ≠ v) ∨
      ∃ (j : Nat) (m : MapEntry) (x : AV), (Instr.findKey kt v arr.toList).run P w = .ok (some (j, m.val)) w ∧ arr.toList[j]? = some m ∧ m.key = v ∧ es'[j]? = some (kk, x) ∧ mapGet es kk = some x ∧ EntryR P g w id (kk, x) m) := by
  have K := mapKeyOk_keyed hk
  have hkey := VR.key (γ := g.γ) hf hv
  obtain ⟨l, hl⟩ := keyOf_fit hk hf hkey
  have hall : ∀ m ∈ arr.toList, ∃ l, keyOf P kt m.key = some l := fun m hm => by
    obtain ⟨i, e, _, _, he, hr⟩ := h.other hm
    exact keyOf_fit hk (h.fit e he) (VR.key (γ := g.γ) (h.fit e he) hr.1)
  refine ⟨fun em => K.check w em hl, ?_⟩
  rcases K.find w hl arr.toList hall with ⟨h1, h2⟩ | ⟨j, m, h1, h2, h3⟩
  · have hne : ∀ e ∈ es, keyEq kk e.1 = false := fun e he => by
      obtain ⟨i, m, _, hm, hr⟩ := h.other' he
      cases hh : keyEq kk e.1 with
      | false => rfl
      | true =>
        have := (keyEq_vals hf (h.fit e he) hkey (VR.key (γ := g.γ) (h.fit e he) hr.1)).1.1 hh
        exact absurd this.symm (h2 m (List.mem_of_getElem? hm))
    exact .inl ⟨h1, mapGet_none hne, hne, h2⟩
  · obtain ⟨i, e, hi, hm, he, hr⟩ := h.other (List.mem_of_getElem? h2)
    have hlj : j < es'.length := by rw [h.len]; exact (List.getElem?_eq_some_iff.1 h2).1
    have hej : es'[j]? = some es'[j] := by simp [hlj]
    have hrj := h.at_ j _ _ hej h2
    have hmem : es'[j] ∈ es := h.perm.mem_iff.1 (List.getElem_mem hlj)
    have hkv := VR.key (γ := g.γ) (h.fit _ hmem) hrj.1
    have heq := (keyEq_vals hf (h.fit _ hmem) hkey hkv).2.2 h3.symm
    refine .inr ⟨j, m, es'[j].2, h1, h2, h3, ?_, ?_, ?_⟩
    · rw [hej, heq]
    · refine mapGet_some (k := kk) (by rw [heq]; exact hmem) ((keyEq_vals hf hf hkey hkey).1.2 rfl) (fun e he hke => ?_) h.ne
      obtain ⟨_, m', _, _, hr'⟩ := h.other' he
      exact ((keyEq_iff hf (h.fit e he) hkey (VR.key (γ := g.γ) (h.fit e he) hr'.1)).1 hke).symm
    · rw [heq]; exact hrj
end

def zeroIs (P : Program) (t : TypeId) (z : AV) : Bool := match P.info? t with
  | some i => (match i.zero with | some v => const v z | none => false)
  | none => false
def chkLook (P : Program) (N : Nat) (o : Oper) (ks : List Nat) (d : Nat) (m k : Opd) (zero : AV) (ok : Bool) : Bool := dstIs N o d &&
  (match o.op with
   | .lookup t m' k' ok' => chkOpd m' m && chkOpd k' k && ok' == ok && (match P.underlying t with | some (.map kt et) => mapKeyOk P kt ks && zeroIs P et zero | _ => false)
   | _ => false)
theorem run_lookup_some {t kt et : TypeId} {b n : Nat} {arr : Array MapEntry} {k x : Value} {j : Nat} {ok : Bool} (hu : P.underlying t = some (.map kt et)) (hb : w.heap[b]? = some (.map arr n))
    (h1 : ∀ em, (Instr.checkKey em 10000 kt k).run P w = .ok () w) (h2 : (Instr.findKey kt k arr.toList).run P w = .ok (some (j, x)) w) :
    (Instr.lookup t (.map (some b)) k ok).run P w = .ok (if ok = true then .tuple #[x, .bool true] else x) w := by
  simp only [Instr.lookup, Sem.run_bind, run_underlying hu, Result.andThen_ok, MapKept.run_getObj_map hb, Sem.run_pure, h1, h2]
theorem run_lookup_none {t kt et : TypeId} {b n : Nat} {arr : Array MapEntry} {k z : Value} {i : TypeInfo} {ok : Bool} (hu : P.underlying t = some (.map kt et)) (hb : w.heap[b]? = some (.map arr n))
    (h1 : ∀ em, (Instr.checkKey em 10000 kt k).run P w = .ok () w) (h2 : (Instr.findKey kt k arr.toList).run P w = .ok none w) (hi : P.info? et = some i) (hz : i.zero = some z) :
    (Instr.lookup t (.map (some b)) k ok).run P w = .ok (if ok = true then .tuple #[z, .bool false] else z) w := by
  simp only [Instr.lookup, Sem.run_bind, run_underlying hu, Result.andThen_ok, MapKept.run_getObj_map hb, Sem.run_pure, h1, h2, zeroValue, typeInfo, run_program, hi, hz]
theorem run_lookup_nil {t kt et : TypeId} {k z : Value} {i : TypeInfo} {ok : Bool} (hu : P.underlying t = some (.map kt et))
    (h1 : ∀ em, (Instr.checkKey em 10000 kt k).run P w = .ok () w) (h2 : (Instr.findKey kt k []).run P w = .ok none w) (hi : P.info? et = some i) (hz : i.zero = some z) :
    (Instr.lookup t (.map none) k ok).run P w = .ok (if ok = true then .tuple #[z, .bool false] else z) w := by
  simp only [Instr.lookup, Sem.run_bind, run_underlying hu, Result.andThen_ok, Sem.run_pure, h1, h2, zeroValue, typeInfo, run_program, hi, hz]
theorem VR.opt {x : AV} {v : Value} {c : Bool} (h : VR g x v) (ok : Bool) : VR g (if ok = true then .tup [x, .bool c] else x) (if ok = true then .tuple #[v, .bool c] else v) := by
  cases ok with
  | false => exact h
  | true => exact .tup _ [v, .bool c] (.cons _ _ _ _ h (.cons _ _ _ _ (.pure _ _ (.bool _)) .nil))
theorem notOwn_opt {x : AV} {c : Bool} (h : NotOwn x) (ok : Bool) : NotOwn (if ok = true then .tup [x, .bool c] else x) := by
  cases ok with
  | false => exact h
  | true => intro e sz xs h; simp at h
theorem const_notOwn {v : Value} {z : AV} (h : const v z = true) : NotOwn z := by
  have := const_sound (γ := fun _ _ => none) h
  intro e sz xs hz
  subst hz; cases this
theorem sim_look {ks : List Nat} {d : Nat} {m k : Opd} {zero : AV} {ok : Bool} (h : Rel P gl N g s a w) (hc : chkLook P N o ks d m k zero ok = true) (he : ev gl s (.look ks d m k zero ok) = some s') : Sim1 P gl N o g a w s' := by
  simp only [chkLook, Bool.and_eq_true] at hc
  obtain ⟨hd, hop⟩ := hc
  split at hop
  · rename_i t m' k' ok' ho
    simp only [Bool.and_eq_true, beq_iff_eq] at hop
    obtain ⟨⟨⟨hm, hk⟩, rfl⟩, hop⟩ := hop
    split at hop
    · rename_i kt et hu
      simp only [Bool.and_eq_true] at hop
      obtain ⟨hkt, hz⟩ := hop
      unfold zeroIs at hz
      split at hz
      · rename_i i hi
        split at hz
        · rename_i zv hzv
          have hzr : VR g zero zv := .pure _ _ (const_sound hz)
          have hzn := const_notOwn hz
          simp only [ev] at he
          split at he
          · rename_i id kk e1 e2
            split at he
            · rename_i nn es hid
              split at he
              · rename_i hf
                simp only [Bool.and_eq_true] at hf
                obtain ⟨b, r1, r2⟩ := h.heap _ _ hid
                obtain ⟨arr, es', A⟩ := r2.at hf.2
                obtain ⟨b', q1, q2⟩ := (evO_sound h hm e1).map_inv
                rw [r1] at q1; simp at q1; subst q1
                have hkv := evO_sound h hk e2
                obtain ⟨hck, hfd⟩ := A.find hkt hf.1 hkv
                rcases hfd with ⟨f1, f2, _⟩ | ⟨j, me, x, f1, f2, f3, f4, f5, f6⟩
                · rw [f2] at he
                  refine .value h hd he ?_ (hzr.opt ok') (notOwn_opt hzn ok')
                  simp only [execOp, ho, q2, Sem.run_bind, run_lookup_none hu A.blk hck f1 hi hzv, Result.andThen_ok, Sem.run_pure]
                · rw [f5] at he
                  refine .value h hd he ?_ (VR.opt (VR.noOwn f6.2.2.1) ok') (notOwn_opt (NotOwn.noOwn _) ok')
                  simp only [execOp, ho, q2, Sem.run_bind, run_lookup_some hu A.blk hck f1, Result.andThen_ok, Sem.run_pure]
              · cases he
            · cases he
          · rename_i kk e1 e2
            split at he
            · rename_i hf
              have q := (evO_sound h hm e1).nilm_inv
              have hkv := evO_sound h hk e2
              have K := mapKeyOk_keyed hkt
              obtain ⟨l, hl⟩ := keyOf_fit hkt hf (VR.key (γ := g.γ) hf hkv)
              refine .value h hd he ?_ (hzr.opt ok') (notOwn_opt hzn ok')
              rcases K.find w hl [] (by simp) with ⟨f1, _⟩ | ⟨j, e, _, f2, _⟩
              · simp only [execOp, ho, q, Sem.run_bind, run_lookup_nil hu (fun em => K.check w em hl) f1 hi hzv, Result.andThen_ok, Sem.run_pure]
              · simp at f2
            · cases he
          · cases he
        · cases hz
      · cases hz
    · cases hop
  · cases hop
end
end AM
/-! The simulation of maps: writes. -/
namespace AM
open Go Go.Maps
section
variable {P : Program} {gl : Glob} {N : Nat} {g g' : Gh} {s s' : St} {a : Act} {w w' : World} {o : Oper} {γ γ' : Gam}

def mapW (w : World) (b : Nat) (arr : Array MapEntry) (n : Nat) : World := { w with heap := w.heap.setIfInBounds b (.map arr n) }
theorem mapW_at {b n n' : Nat} {arr arr' : Array MapEntry} (h : w.heap[b]? = some (.map arr n)) : (mapW w b arr' n').heap[b]? = some (.map arr' n') := by
  have := (Array.getElem?_eq_some_iff.1 h).1
  simp [mapW, this]
theorem mapW_other {b n' k : Nat} {arr' : Array MapEntry} (h : k ≠ b) : (mapW w b arr' n').heap[k]? = w.heap[k]? := by
  simp [mapW, Array.getElem?_setIfInBounds_ne (Ne.symm h)]
theorem mapW_size {b n' : Nat} {arr' : Array MapEntry} : (mapW w b arr' n').heap.size = w.heap.size := by simp [mapW]

/-- An object beside a map that is written. -/
theorem ObjR.besideMap {id id' b n n' : Nat} {o : AObj} {arr arr' : Array MapEntry} (h : ObjR P g w id' o) (hid : id' ≠ id) (hb : g.ρ id = some b) (ho : g.Ω b = .ob id) (hw : w.heap[b]? = some (.map arr n)) (hn : n ≤ n')
    (hsub : n' = n → ∀ m ∈ arr'.toList, ∃ m0 ∈ arr.toList, m0.born = m.born ∧ m0.key = m.key) : ObjR P g (mapW w b arr' n') id' o := by
  have hg : GhLe g g := ⟨fun _ _ _ h => h, fun _ _ h => h⟩
  have hk : Kept g w g (mapW w b arr' n') fun o => o ≠ .ob id := fun k hk => ⟨rfl, mapW_other (fun e => hk (by rw [e, ho])), fun _ => rfl⟩
  cases o with
  | cells cs => obtain ⟨b', p1, p2⟩ := h; exact ⟨b', p1, p2.kept hg hk (by simp [hid]) (by simp)⟩
  | buf e cs =>
    obtain ⟨b', k, p1, p2, p3, ⟨arr, p4, p5⟩, p6⟩ := h
    have q3 : g.Ω b' = .ob id' := p3.choose_spec.choose_spec.2.2.1
    refine ⟨b', k, p1, p2, p3.kept hg hk (by simp [hid]) (by simp), ⟨arr, ?_, p5⟩, p6⟩
    exact (hk b' (by rw [q3]; simp [hid])).2.1.trans p4
  | map n es => obtain ⟨b', p1, p2⟩ := h; exact ⟨b', p1, p2.kept hg hk (by simp [hid]) (by simp)⟩
  | iter m since seen =>
    obtain ⟨b', o, p1, p2, p3, p4⟩ := h
    refine ⟨b', o, p1, (hk b' (by rw [p3]; simp [hid])).2.1.trans p2, p3, ?_⟩
    cases m with
    | none => cases o <;> first | exact p4 | skip
              rename_i mp _ _ _
              cases mp <;> exact p4
    | some mid =>
      cases o <;> try exact p4
      rename_i mp s ss last
      cases mp with
      | none => exact p4
      | some bm =>
        obtain ⟨q1, q2, q3, q4, q5, arr2, n2, q6, q7⟩ := p4
        by_cases hm : mid = id
        · subst hm
          rw [hb] at q1; simp at q1; subst q1
          rw [hw] at q6; simp at q6; obtain ⟨rfl, rfl⟩ := q6
          refine ⟨hb, q2, q3, q4, ?_, arr', n', mapW_at hw, by omega⟩
          obtain ⟨L, r1, r2, r3, r4, r5⟩ := q5
          refine ⟨L, r1, r2, r3, r4, fun arr3 ha m hm => ?_⟩
          rw [mapW_at hw] at ha; simp at ha; obtain ⟨rfl, rfl⟩ := ha
          have hnn : n' = n := by omega
          obtain ⟨m0, h0, h1, h2⟩ := hsub hnn m hm
          subst hnn
          obtain ⟨k, hk1, hk2⟩ := r5 _ hw m0 h0
          exact ⟨k, by rw [← h1]; exact hk1, by rw [← h2]; exact hk2⟩
        · have hbm : bm ≠ b := fun e => by rw [e, ho] at q2; simp at q2; exact hm q2.symm
          exact ⟨q1, q2, q3, q4, q5.kept (mapW_other hbm), arr2, n2, (mapW_other hbm).trans q6, q7⟩
  | dead => trivial

/-- A map is written. -/
theorem Rel.mapWrite (h : Rel P gl N g s a w) {id b n n' : Nat} {es es' es2 es2' : List (AV × AV)} {ks : List Nat} {arr arr' : Array MapEntry} (hb : g.ρ id = some b) (A : MapAt P g w id b n es ks arr es') (hn : n ≤ n')
    (hperm : es2'.Perm es2) (hlen : es2'.length = arr'.toList.length) (hat : ∀ (i : Nat) e m, es2'[i]? = some e → arr'.toList[i]? = some m → EntryR P g w id e m)
    (hborn : arr'.toList.Pairwise fun x y => x.born < y.born) (hlt : ∀ m ∈ arr'.toList, m.born < n') (huniq : es2.Pairwise fun x y => keyEq x.1 y.1 = false) (hfit : ∀ e ∈ es2, keyFit ks e.1 = true)
    (hsub : n' = n → ∀ m ∈ arr'.toList, ∃ m0 ∈ arr.toList, m0.born = m.born ∧ m0.key = m.key) :
    GLe g w g (mapW w b arr' n') ∧ Rel P gl N g { s with heap := s.heap.set id (.map n' es2) } a (mapW w b arr' n') := by
  have hg : GhLe g g := ⟨fun _ _ _ h => h, fun _ _ h => h⟩
  have hk : Kept g w g (mapW w b arr' n') fun o => o ≠ .ob id := fun k hk => ⟨rfl, mapW_other (fun e => hk (by rw [e, A.own])), fun _ => rfl⟩
  refine ⟨⟨hg, fun k hk => ⟨hk, mapW_other (fun e => by rw [e, A.own] at hk; cases hk), fun _ => rfl⟩, by rw [mapW_size]; exact Nat.le_refl _, rfl, rfl⟩, ?_⟩
  refine ⟨h.sorted, h.size, h.defers, fun t e he => (h.env t e he).kept hg hk (by simp) (by simp) (by simp), fun id' ob hob => ?_, fun k off v hv => ?_, fun k hk => by rw [mapW_size]; exact h.own k hk, h.glob, fun i b hi => by simpa using h.rho i b hi⟩
  · simp only at hob
    rw [List.getElem?_set] at hob
    split at hob
    · rename_i e; subst e
      split at hob
      · simp at hob; subst hob
        refine ⟨b, hb, arr', mapW_at A.blk, A.own, ⟨es2', hperm, hlen, fun i e m he hm => ?_⟩, hborn, hlt, huniq, ks, hfit⟩
        obtain ⟨p1, p2, p3, p4⟩ := hat i e m he hm
        exact ⟨p1, p2, p3, p4.kept hg hk (by simp)⟩
      · cases hob
    · rename_i e
      exact (h.heap id' ob hob).besideMap (fun h => e h.symm) hb A.own A.blk hn hsub
  · have hv' := h.gam k off v hv
    by_cases e : k = b
    · subst e
      unfold World.cell? at hv'
      rw [A.blk] at hv'; simp at hv'
    · unfold World.cell? at hv' ⊢
      rw [mapW_other e]; exact hv'

section
variable {id b n : Nat} {es es' : List (AV × AV)} {ks : List Nat} {arr : Array MapEntry}
def repl (kk x : AV) (e : AV × AV) : AV × AV := if keyEq kk e.1 = true then (e.1, x) else e
theorem mapSet_map {kk x : AV} : ∀ {es : List (AV × AV)}, es.Pairwise (fun e e' => keyEq kk e.1 = true → keyEq kk e'.1 = false) → mapSet es kk x = es.map (repl kk x)
  | [], _ => rfl
  | (k, u) :: r, h => by
    obtain ⟨h1, h2⟩ := List.pairwise_cons.1 h
    simp only [mapSet, List.map_cons, repl]
    by_cases hk : keyEq kk k = true
    · simp only [hk, if_true, List.cons.injEq, true_and]
      have : ∀ e ∈ r, repl kk x e = e := fun e he => by simp [repl, h1 e he hk]
      rw [List.map_congr_left this]; simp
    · simp only [hk, Bool.false_eq_true, if_false, mapSet_map h2]
theorem mapDel_filter {kk : AV} : ∀ {es : List (AV × AV)}, es.Pairwise (fun e e' => keyEq kk e.1 = true → keyEq kk e'.1 = false) → mapDel es kk = es.filter (fun e => !keyEq kk e.1)
  | [], _ => rfl
  | (k, u) :: r, h => by
    obtain ⟨h1, h2⟩ := List.pairwise_cons.1 h
    simp only [mapDel, List.filter_cons]
    by_cases hk : keyEq kk k = true
    · simp only [hk, if_true, Bool.not_true, Bool.false_eq_true, if_false]
      rw [List.filter_eq_self.2]
      intro e he
      simp [h1 e he hk]
    · simp only [hk, Bool.false_eq_true, if_false, mapDel_filter h2]
      simp
theorem mapIns_perm {kk x : AV} : ∀ {es : List (AV × AV)}, (mapIns es kk x).Perm ((kk, x) :: es)
  | [] => .refl _
  | (k, u) :: r => by
    simp only [mapIns]
    split
    · exact .refl _
    · exact ((mapIns_perm (es := r)).cons _).trans (.swap _ _ _)
/-- A key stands once. -/
theorem MapAt.once (A : MapAt P g w id b n es ks arr es') {kk : AV} {v : Value} (hf : keyFit ks kk = true) (hv : VR g kk v) :
    (∀ e ∈ es, keyEq kk e.1 = true ↔ kk = e.1) ∧ ∀ l : List (AV × AV), l.Perm es → l.Pairwise (fun e e' => keyEq kk e.1 = true → keyEq kk e'.1 = false) := by
  have h1 : ∀ e ∈ es, keyEq kk e.1 = true ↔ kk = e.1 := fun e he => by
    obtain ⟨_, m, _, _, q⟩ := A.other' he
    exact keyEq_iff hf (A.fit e he) (VR.key (γ := g.γ) hf hv) (VR.key (γ := g.γ) (A.fit e he) q.1)
  refine ⟨h1, fun l hl => ?_⟩
  have : l.Pairwise fun x y => x.1 ≠ y.1 := (hl.symm.pairwise_iff (fun {x y} (h : x.1 ≠ y.1) => h.symm)).1 A.ne
  refine List.Pairwise.imp_of_mem ?_ this
  intro x y hx hy hxy hk
  cases hh : keyEq kk y.1 with
  | false => rfl
  | true => exact absurd (((h1 x (hl.mem_iff.1 hx)).1 hk).symm.trans ((h1 y (hl.mem_iff.1 hy)).1 hh)) hxy
theorem set_map_repl {kk x y : AV} : ∀ {l : List (AV × AV)} {j : Nat}, l[j]? = some (kk, y) → keyEq kk kk = true → l.Pairwise (fun e e' => keyEq kk e.1 = true → keyEq kk e'.1 = false) → l.set j (kk, x) = l.map (repl kk x)
  | [], j, h, _, _ => by simp at h
  | e :: r, 0, h, hk, hp => by
    simp at h; subst h
    obtain ⟨h1, h2⟩ := List.pairwise_cons.1 hp
    simp only [List.set_cons_zero, List.map_cons, repl, hk, if_true, List.cons.injEq, true_and]
    have : ∀ e ∈ r, repl kk x e = e := fun e he => by simp [repl, h1 e he hk]
    rw [List.map_congr_left this]; simp
  | e :: r, j + 1, h, hk, hp => by
    obtain ⟨h1, h2⟩ := List.pairwise_cons.1 hp
    simp only [List.set_cons_succ, List.map_cons, List.cons.injEq]
    have hm : (kk, y) ∈ r := List.mem_of_getElem? (by simpa using h)
    refine ⟨?_, set_map_repl (j := j) (by simpa using h) hk h2⟩
    cases he : keyEq kk e.1 with
    | false => simp [repl, he]
    | true => have := h1 _ hm he; simp only at this; rw [hk] at this; cases this
theorem erase_filter {kk y : AV} : ∀ {l : List (AV × AV)} {j : Nat}, l[j]? = some (kk, y) → keyEq kk kk = true → l.Pairwise (fun e e' => keyEq kk e.1 = true → keyEq kk e'.1 = false) → l.eraseIdx j = l.filter (fun e => !keyEq kk e.1)
  | [], j, h, _, _ => by simp at h
  | e :: r, 0, h, hk, hp => by
    simp at h; subst h
    obtain ⟨h1, h2⟩ := List.pairwise_cons.1 hp
    simp only [List.eraseIdx_cons_zero, List.filter_cons, hk, Bool.not_true, Bool.false_eq_true, if_false]
    rw [List.filter_eq_self.2]
    intro e he
    simp [h1 e he hk]
  | e :: r, j + 1, h, hk, hp => by
    obtain ⟨h1, h2⟩ := List.pairwise_cons.1 hp
    have hm : (kk, y) ∈ r := List.mem_of_getElem? (by simpa using h)
    have he : keyEq kk e.1 = false := by
      cases he : keyEq kk e.1 with
      | false => rfl
      | true => have := h1 _ hm he; simp only at this; rw [hk] at this; cases this
    simp only [List.eraseIdx_cons_succ, List.filter_cons, he, Bool.not_false, if_true, List.cons.injEq, true_and]
    exact erase_filter (by simpa using h) hk h2
theorem MapAt.self {kk : AV} {v : Value} (hf : keyFit ks kk = true) (hv : VR g kk v) : keyEq kk kk = true :=
  (keyEq_vals hf hf (VR.key (γ := g.γ) hf hv) (VR.key (γ := g.γ) hf hv)).1.2 rfl
theorem modify_toList {arr : Array MapEntry} (j : Nat) (f : MapEntry → MapEntry) (i : Nat) : (arr.modify j f).toList[i]? = if j = i then arr.toList[i]?.map f else arr.toList[i]? := by
  simp only [Array.getElem?_toList, Array.getElem?_modify]
theorem pairwise_born_of {l l' : List MapEntry} (h : l.Pairwise fun x y => x.born < y.born) (he : l'.map (·.born) = l.map (·.born)) : l'.Pairwise fun x y => x.born < y.born := by
  have h1 : (l.map (·.born)).Pairwise (· < ·) := List.pairwise_map.2 h
  rw [← he] at h1
  exact List.pairwise_map.1 h1

theorem keyFit_key1 {x : AV} (h : keyFit ks x = true) : key1 x = true := by
  rcases keyFit_inv h with ⟨l, rfl, _⟩ | ⟨cs, rfl, _, h3, h4⟩
  · rfl
  · simp only [key1, List.all_eq_true]
    intro c hc
    rcases h4 (knd c) (by rw [← h3]; exact List.mem_map.2 ⟨c, hc, rfl⟩) with hk | hk
    · obtain ⟨l, rfl⟩ := knd_str hk; rfl
    · obtain ⟨l, rfl⟩ := knd_bool hk; rfl

def chkUpd (P : Program) (o : Oper) (ks : List Nat) (m k v : Opd) : Bool := o.dst == none &&
  (match o.op with
   | .mapUpdate t m' k' v' => chkOpd m' m && chkOpd k' k && chkOpd v' v && (match P.underlying t with | some (.map kt _) => mapKeyOk P kt ks | _ => false)
   | _ => false)
theorem run_update_some {t kt et : TypeId} {b n j : Nat} {arr : Array MapEntry} {m : MapEntry} {k x v : Value} (hu : P.underlying t = some (.map kt et)) (hb : w.heap[b]? = some (.map arr n))
    (h1 : ∀ em, (Instr.checkKey em 10000 kt k).run P w = .ok () w) (h2 : (Instr.findKey kt k arr.toList).run P w = .ok (some (j, x)) w) (hm : arr.toList[j]? = some m) (hk : m.key = k)
    (hs : (Instr.keyThatStays k k).run P w = .ok k w) :
    (Instr.mapUpdate t (.map (some b)) k v).run P w = .ok () (mapW w b (arr.modify j fun e => { e with key := k, val := v }) n) := by
  have hm' : ((arr[j]?).map (·.key)).getD k = k := by
    have : arr[j]? = some m := by simpa using hm
    simp [this, hk]
  simp only [Instr.mapUpdate, Sem.run_bind, run_underlying hu, Result.andThen_ok, MapKept.run_getObj_map hb, h1, h2, hm', hs, MapKept.run_setObj_map _ hb, mapW]
theorem run_update_none {t kt et : TypeId} {b n : Nat} {arr : Array MapEntry} {k v : Value} (hu : P.underlying t = some (.map kt et)) (hb : w.heap[b]? = some (.map arr n))
    (h1 : ∀ em, (Instr.checkKey em 10000 kt k).run P w = .ok () w) (h2 : (Instr.findKey kt k arr.toList).run P w = .ok none w) :
    (Instr.mapUpdate t (.map (some b)) k v).run P w = .ok () (mapW w b (arr.push { key := k, val := v, born := n }) (n + 1)) := by
  simp only [Instr.mapUpdate, Sem.run_bind, run_underlying hu, Result.andThen_ok, MapKept.run_getObj_map hb, h1, h2, MapKept.run_setObj_map _ hb, mapW]

/-- A map's entry is set. -/
theorem upd_core (h : Rel P gl N g s a w) (hb : g.ρ id = some b) (A : MapAt P g w id b n es ks arr es') {t kt et : TypeId} (hu : P.underlying t = some (.map kt et)) (hk : mapKeyOk P kt ks = true)
    {kk x : AV} {kv v : Value} (hf : keyFit ks kk = true) (hkv : VR g kk kv) (hx : VR g x v) (ho : ∀ born, (mapGet es kk = none → born = n) → (∀ (j : Nat) y m, mapGet es kk = some y → es'[j]? = some (kk, y) → arr.toList[j]? = some m → born = m.born) → OwnR P g w (.oc id born) x v) :
    ∃ w', (Instr.mapUpdate t (.map (some b)) kv v).run P w = .ok () w' ∧ GLe g w g w' ∧ Rel P gl N g { s with heap := s.heap.set id (mapPut n es kk x) } a w' := by
  obtain ⟨hck, hfd⟩ := A.find hk hf hkv
  obtain ⟨honce, hpw⟩ := A.once hf hkv
  have hself : keyEq kk kk = true := MapAt.self hf hkv
  rcases hfd with ⟨f1, f2, f3, f4⟩ | ⟨j, me, y, f1, f3, f4, f5, f6, f7⟩
  · refine ⟨_, run_update_none hu A.blk hck f1, ?_⟩
    have hown := ho n (fun _ => rfl) (fun j y m hy => by rw [f2] at hy; cases hy)
    have := h.mapWrite (n' := n + 1) (es2 := mapIns es kk x) (es2' := es' ++ [(kk, x)]) (arr' := arr.push { key := kv, val := v, born := n }) hb A (by omega)
      ((List.perm_append_comm.trans (A.perm.cons _)).trans mapIns_perm.symm) (by simp [A.len]) (fun i e m he hm => by
        simp only [Array.toList_push] at hm
        by_cases hi : i < es'.length
        · rw [List.getElem?_append_left hi] at he
          rw [List.getElem?_append_left (by rw [← A.len]; exact hi)] at hm
          exact A.at_ i e m he hm
        · rw [List.getElem?_append_right (by omega)] at he
          rw [List.getElem?_append_right (by rw [← A.len]; omega)] at hm
          have hz : i - es'.length = 0 := by
            have := (List.getElem?_eq_some_iff.1 he).1; simp at this; omega
          rw [← A.len] at hm
          rw [hz] at he hm
          simp at he hm; subst he hm
          exact ⟨hkv, keyFit_key1 hf, hx, hown⟩)
      (by
        simp only [Array.toList_push]
        refine List.pairwise_append.2 ⟨A.born, by simp, fun x hx y hy => ?_⟩
        simp at hy; subst hy; exact A.lt x hx)
      (fun m hm => by
        simp only [Array.toList_push, List.mem_append, List.mem_singleton] at hm
        rcases hm with hm | rfl
        · have := A.lt m hm; omega
        · simp)
      (by
        have hcons : ((kk, x) :: es).Pairwise fun x y => keyEq x.1 y.1 = false := List.pairwise_cons.2 ⟨fun e he => f3 e he, A.uniq⟩
        have hcons' : ((kk, x) :: es).Pairwise fun x y => x.1 ≠ y.1 := List.pairwise_cons.2 ⟨(fun e he hee => by
          have := f3 e he; simp only at hee; rw [(honce e he).2 hee] at this; cases this), A.ne⟩
        have hp' : (mapIns es kk x).Pairwise fun x y => x.1 ≠ y.1 := (mapIns_perm.symm.pairwise_iff (fun {x y} (h : x.1 ≠ y.1) => h.symm)).1 hcons'
        refine List.Pairwise.imp_of_mem ?_ hp'
        intro p q hp hq hpq
        have hfit : ∀ p ∈ (kk, x) :: es, keyFit ks p.1 = true ∧ ∃ v, PR g.γ p.1 v := fun p hp => by
          rcases List.mem_cons.1 hp with rfl | hp
          · exact ⟨hf, kv, VR.key hf hkv⟩
          · obtain ⟨_, m, _, _, q⟩ := A.other' hp; exact ⟨A.fit p hp, m.key, VR.key (A.fit p hp) q.1⟩
        obtain ⟨a1, v1, a2⟩ := hfit p (mapIns_perm.mem_iff.1 hp)
        obtain ⟨b1, v2, b2⟩ := hfit q (mapIns_perm.mem_iff.1 hq)
        cases hh : keyEq p.1 q.1 with
        | false => rfl
        | true => exact absurd ((keyEq_iff a1 b1 a2 b2).1 hh) hpq)
      (fun e he => by
        rcases List.mem_cons.1 (mapIns_perm.mem_iff.1 he) with rfl | he
        · exact hf
        · exact A.fit e he)
      (fun h => by omega)
    simp only [mapPut, f2]
    exact this
  · have hstay : (Instr.keyThatStays kv kv).run P w = .ok kv w := by
      obtain ⟨l, hl⟩ := keyOf_fit hk hf (VR.key (γ := g.γ) hf hkv)
      exact (mapKeyOk_keyed hk).stays w hl
    refine ⟨_, run_update_some hu A.blk hck f1 f3 f4 hstay, ?_⟩
    have hown := ho me.born (fun h => by rw [f6] at h; cases h) (fun j' y' m' hy hj hm => by
      have hjj : j' = j := by
        have h1 := hpw es' A.perm
        rcases Nat.lt_trichotomy j' j with hlt | he | hlt
        · have := List.pairwise_iff_getElem.1 h1 j' j (List.getElem?_eq_some_iff.1 hj).1 (List.getElem?_eq_some_iff.1 f5).1 hlt
          rw [(List.getElem?_eq_some_iff.1 hj).2, (List.getElem?_eq_some_iff.1 f5).2] at this
          simp only [hself, forall_const] at this; cases this
        · exact he
        · have := List.pairwise_iff_getElem.1 h1 j j' (List.getElem?_eq_some_iff.1 f5).1 (List.getElem?_eq_some_iff.1 hj).1 hlt
          rw [(List.getElem?_eq_some_iff.1 hj).2, (List.getElem?_eq_some_iff.1 f5).2] at this
          simp only [hself, forall_const] at this; cases this
      subst hjj; rw [f3] at hm; simp at hm; rw [hm])
    have hset := set_map_repl (kk := kk) (x := x) f5 hself (hpw es' A.perm)
    have hmap := mapSet_map (kk := kk) (x := x) (hpw es (.refl _))
    have hkeys : ∀ l : List (AV × AV), (l.map (repl kk x)).map (·.1) = l.map (·.1) := fun l => by
      rw [List.map_map]
      refine List.map_congr_left fun e _ => ?_
      simp only [Function.comp, repl]; split <;> rfl
    have hborn : (arr.modify j fun e => { e with key := kv, val := v }).toList.map (·.born) = arr.toList.map (·.born) := by
      apply List.ext_getElem?
      intro i
      simp only [List.getElem?_map, modify_toList]
      split
      · cases arr.toList[i]? <;> rfl
      · rfl
    have := h.mapWrite (n' := n) (es2 := mapSet es kk x) (es2' := es'.set j (kk, x)) (arr' := arr.modify j fun e => { e with key := kv, val := v }) hb A (Nat.le_refl _)
      (by rw [hset, hmap]; exact A.perm.map _) (by simp [A.len]) (fun i e m he hm => by
        rw [modify_toList] at hm
        rw [List.getElem?_set] at he
        by_cases hij : j = i
        · subst hij
          simp only [if_true, f3, Option.map_some, Option.some.injEq] at hm
          have hlt : j < es'.length := (List.getElem?_eq_some_iff.1 f5).1
          simp only [if_true, hlt, Option.some.injEq] at he
          subst he hm
          exact ⟨hkv, keyFit_key1 hf, hx, hown⟩
        · simp only [hij, if_false] at he hm
          exact A.at_ i e m he hm)
      (pairwise_born_of A.born hborn)
      (fun m hm => by
        have : m.born ∈ (arr.modify j fun e => { e with key := kv, val := v }).toList.map (·.born) := List.mem_map.2 ⟨m, hm, rfl⟩
        rw [hborn] at this
        obtain ⟨m0, h0, h1⟩ := List.mem_map.1 this
        rw [← h1]; exact A.lt m0 h0)
      (by
        have h1 : (es.map (·.1)).Pairwise fun x y => keyEq x y = false := List.pairwise_map.2 A.uniq
        rw [hmap]
        rw [← hkeys es] at h1
        exact List.pairwise_map.1 h1)
      (fun e he => by
        rw [hmap] at he
        obtain ⟨e0, h0, rfl⟩ := List.mem_map.1 he
        have := A.fit e0 h0
        simp only [repl]; split <;> exact this)
      (fun _ m hm => by
        obtain ⟨i, hi, hmi⟩ := List.getElem_of_mem hm
        have h1 : (arr.modify j fun e => { e with key := kv, val := v }).toList[i]? = some m := by rw [List.getElem?_eq_getElem hi, hmi]
        rw [modify_toList] at h1
        split at h1
        · rename_i hij; subst hij
          rw [f3] at h1; simp at h1; subst h1
          exact ⟨me, List.mem_of_getElem? f3, rfl, f4⟩
        · exact ⟨m, List.mem_of_getElem? h1, rfl, rfl⟩)
    simp only [mapPut, f6]
    exact this
end
end
end AM
/-! The simulation of maps: updates, deletions, lookups that take. -/
namespace AM
open Go Go.Maps
section
variable {P : Program} {gl : Glob} {N : Nat} {g g' : Gh} {s s' : St} {a : Act} {w w' : World} {o : Oper} {γ γ' : Gam}

theorem sim_upd {ks : List Nat} {m k v : Opd} (h : Rel P gl N g s a w) (hc : chkUpd P o ks m k v = true) (he : ev gl s (.upd ks m k v) = some s') : Sim1 P gl N o g a w s' := by
  simp only [chkUpd, Bool.and_eq_true, beq_iff_eq] at hc
  obtain ⟨hd, hop⟩ := hc
  split at hop
  · rename_i t m' k' v' ho
    simp only [Bool.and_eq_true] at hop
    obtain ⟨⟨⟨hm, hk⟩, hv⟩, hop⟩ := hop
    split at hop
    · rename_i kt et hu
      simp only [ev] at he
      split at he
      · rename_i id kk x e1 e2 e3
        split at he
        · rename_i n es hid
          split at he
          · rename_i hf
            simp only [Bool.and_eq_true] at hf
            simp at he; subst he
            obtain ⟨b, r1, r2⟩ := h.heap _ _ hid
            obtain ⟨arr, es', A⟩ := r2.at hf.2
            obtain ⟨b', q1, q2⟩ := (evO_sound h hm e1).map_inv
            rw [r1] at q1; simp at q1; subst q1
            obtain ⟨w', p1, p2, p3⟩ := upd_core h r1 A hu hop hf.1 (evO_sound h hk e2) (evO_sound h hv e3).noOwn (fun _ _ _ => NotOwn.ownR (NotOwn.noOwn x))
            refine ⟨undef, w', g, .inr ⟨?_, rfl⟩, p2, ?_⟩
            · simp only [execOp, ho, q2, Sem.run_bind, p1, Result.andThen_ok, Sem.run_pure]
            · rw [hd]; exact p3
          · cases he
        · cases he
      · cases he
    · cases hop
  · cases hop

def chkUpdT (P : Program) (o : Oper) (ks : List Nat) (m k : Opd) (v : Nat) : Bool := chkUpd P o ks m k (.t v)
theorem sim_updT {ks : List Nat} {m k : Opd} {v : Nat} (h : Rel P gl N g s a w) (hc : chkUpdT P o ks m k v = true) (he : ev gl s (.updT ks m k v) = some s') : Sim1 P gl N o g a w s' := by
  simp only [chkUpdT, chkUpd, Bool.and_eq_true, beq_iff_eq] at hc
  obtain ⟨hd, hop⟩ := hc
  split at hop
  · rename_i t m' k' v' ho
    simp only [Bool.and_eq_true] at hop
    obtain ⟨⟨⟨hm, hk⟩, hv⟩, hop⟩ := hop
    have hv' : v' = .tmp v := by unfold chkOpd at hv; split at hv <;> simp_all
    subst hv'
    split at hop
    · rename_i kt et hu
      simp only [ev] at he
      split at he
      · rename_i id kk e sz xs e1 e2 hvx
        split at he
        · rename_i n es hid
          split at he
          · rename_i hf
            simp only [Bool.and_eq_true] at hf
            obtain ⟨b, r1, r2⟩ := h.heap _ _ hid
            obtain ⟨arr, es', A⟩ := r2.at hf.2
            obtain ⟨b', q1, q2⟩ := (evO_sound h hm e1).map_inv
            rw [r1] at q1; simp at q1; subst q1
            have hkv := evO_sound h hk e2
            obtain ⟨h3, h4⟩ := h.strip hvx
            obtain ⟨u, p1, p2, p3⟩ := h.env _ _ hvx
            have hfree := strip_free s v sz xs
            -- the owner that the entry names
            have hborn : ∃ born, (mapGet es kk = none → born = n) ∧ ∀ (j : Nat) y m, mapGet es kk = some y → es'[j]? = some (kk, y) → arr.toList[j]? = some m → born = m.born := by
              obtain ⟨_, hfd⟩ := A.find hop hf.1 hkv
              obtain ⟨_, hpw⟩ := A.once hf.1 hkv
              have hself : keyEq kk kk = true := MapAt.self hf.1 hkv
              rcases hfd with ⟨_, f2, _⟩ | ⟨j, me, y, _, f3, _, f5, f6, _⟩
              · exact ⟨n, fun _ => rfl, fun j y m hy => by rw [f2] at hy; cases hy⟩
              · refine ⟨me.born, (fun h => by rw [f6] at h; cases h), fun j' y' m' hy hj hm => ?_⟩
                have hjj : j' = j := by
                  have h1 := hpw es' A.perm
                  rcases Nat.lt_trichotomy j' j with hlt | he | hlt
                  · have := List.pairwise_iff_getElem.1 h1 j' j (List.getElem?_eq_some_iff.1 hj).1 (List.getElem?_eq_some_iff.1 f5).1 hlt
                    rw [(List.getElem?_eq_some_iff.1 hj).2, (List.getElem?_eq_some_iff.1 f5).2] at this
                    simp only [hself, forall_const] at this; cases this
                  · exact he
                  · have := List.pairwise_iff_getElem.1 h1 j j' (List.getElem?_eq_some_iff.1 f5).1 (List.getElem?_eq_some_iff.1 hj).1 hlt
                    rw [(List.getElem?_eq_some_iff.1 hj).2, (List.getElem?_eq_some_iff.1 f5).2] at this
                    simp only [hself, forall_const] at this; cases this
                subst hjj; rw [f3] at hm; simp at hm; rw [hm]
            obtain ⟨born, hb1, hb2⟩ := hborn
            have hpass : ∃ g', GLe g w g' w ∧ Rel P gl N g' { s with env := s.env.ins v (.v (.list none sz xs)) } a w ∧ OwnR P g' w (.oc id born) (.list (some e) sz xs) u := by
              cases hb : u.ownBlock with
              | none => exact ⟨g, GLe.refl _ _, h4, p3.free hb⟩
              | some b =>
                obtain ⟨i', z, vs, m1, m2, m3, m4, m5, m6, m6', m7, m8⟩ := p3 e sz xs rfl
                obtain ⟨n1, n2⟩ := h4.pass (.var v) (.oc id born) hfree (by simp) (m8 b hb).1 (by simp)
                exact ⟨_, n1, n2, p3.pass b hb⟩
            obtain ⟨g', n1, n2, n3⟩ := hpass
            obtain ⟨b2, s1, s2⟩ := n2.heap _ _ hid
            have : b2 = b := by have := n1.ρ _ _ r1; rw [s1] at this; simpa using this
            subst this
            obtain ⟨arr2, es2', A2⟩ := s2.at hf.2
            have harr : arr2 = arr := by have := A2.blk; rw [A.blk] at this; simp at this; exact this.symm
            subst harr
            have hkv' := hkv.mono n1.toGhLe
            -- the two ways to lay the entries side by side agree at this key
            have hb2' : ∀ (j : Nat) y m, mapGet es kk = some y → es2'[j]? = some (kk, y) → arr2.toList[j]? = some m → born = m.born := by
              intro j y m hy hj hm2
              obtain ⟨_, hfd⟩ := A.find hop hf.1 hkv
              rcases hfd with ⟨_, f2, _⟩ | ⟨j1, me, y1, _, f3, f4, f5, f6, f7⟩
              · rw [f2] at hy; cases hy
              · have hbm := hb2 j1 y1 me f6 f5 f3
                have hr := A2.at_ j _ _ hj hm2
                have hkm : m.key = me.key := by
                  have := (keyEq_vals hf.1 hf.1 (VR.key (γ := g'.γ) hf.1 hr.1) (VR.key (γ := g.γ) hf.1 hkv)).2.1 rfl
                  rw [this, f4]
                -- keys of the block differ
                have hlt1 : j1 < es'.length := (List.getElem?_eq_some_iff.1 f5).1
                have hne : ∀ j' m', arr2.toList[j']? = some m' → m'.key = me.key → j' = j1 := by
                  intro j' m' hm' hk'
                  have hl' : j' < es'.length := by rw [A.len]; exact (List.getElem?_eq_some_iff.1 hm').1
                  have hr' := A.at_ j' es'[j'] m' (by simp [hl']) hm'
                  have hfit' := A.fit _ (A.perm.mem_iff.1 (List.getElem_mem hl'))
                  have hkk' : kk = es'[j'].1 := (keyEq_vals hf.1 hfit' (VR.key (γ := g.γ) hf.1 hkv) (VR.key (γ := g.γ) hfit' hr'.1)).2.2 (by rw [hk', f4])
                  have hself : keyEq kk kk = true := MapAt.self hf.1 hkv
                  obtain ⟨_, hpw⟩ := A.once hf.1 hkv
                  have h1 := hpw es' A.perm
                  rcases Nat.lt_trichotomy j' j1 with hlt | he | hlt
                  · have := List.pairwise_iff_getElem.1 h1 j' j1 hl' hlt1 hlt
                    rw [(List.getElem?_eq_some_iff.1 f5).2, ← hkk'] at this
                    simp only [hself, forall_const] at this; cases this
                  · exact he
                  · have := List.pairwise_iff_getElem.1 h1 j1 j' hlt1 hl' hlt
                    rw [(List.getElem?_eq_some_iff.1 f5).2, ← hkk'] at this
                    simp only [hself, forall_const] at this; cases this
                have := hne j m hm2 hkm
                subst this
                rw [f3] at hm2; simp at hm2; rw [hbm, hm2]
            obtain ⟨w', t1, t2, t3⟩ := upd_core (x := .list (some e) sz xs) (v := u) n2 s1 A2 hu hop hf.1 hkv' (p2.mono n1.toGhLe) (fun born' c1 c2 => by
              have : born' = born := by
                cases hg : mapGet es kk with
                | none => rw [c1 hg, hb1 hg]
                | some y =>
                  obtain ⟨_, hfd⟩ := A2.find hop hf.1 hkv'
                  rcases hfd with ⟨_, f2, _⟩ | ⟨j1, me, y1, _, f3, f4, f5, f6, f7⟩
                  · rw [f2] at hg; cases hg
                  · rw [c2 j1 y1 me f6 f5 f3, hb2' j1 y1 me f6 f5 f3]
              subst this; exact n3)
            have hput : ({ s with heap := s.heap.set id (mapPut n es kk (.list (some e) sz xs)) } : St).put v (.list none sz xs) = some { env := s.env.ins v (.v (.list none sz xs)), heap := s.heap.set id (mapPut n es kk (.list (some e) sz xs)) } := by
              simp [St.put, okPut, hvx]
            rw [hput] at he; simp at he; subst he
            refine ⟨undef, w', g', .inr ⟨?_, rfl⟩, n1.trans t2, ?_⟩
            · have hev : a.eval (.tmp v) = u := by simp [Act.eval, p1]
              simp only [execOp, ho, q2, hev, Sem.run_bind, t1, Result.andThen_ok, Sem.run_pure]
            · rw [hd]; exact t3
          · cases he
        · cases he
      · cases he
    · cases hop
  · cases hop

def chkMdel (P : Program) (N : Nat) (o : Oper) (ks : List Nat) (d : Option Nat) (m k : Opd) : Bool := (match d with | some d => dstIs N o d | none => o.dst == none) &&
  (match bcall o.op with
   | some (.delete, [m', k'], t :: _) => chkOpd m' m && chkOpd k' k && (match P.underlying t with | some (.map kt _) => mapKeyOk P kt ks | _ => false)
   | _ => false)
theorem run_delete_some {t ty kt et : TypeId} {ts : List TypeId} {b n j : Nat} {arr : Array MapEntry} {k x : Value} (hu : P.underlying t = some (.map kt et)) (hb : w.heap[b]? = some (.map arr n))
    (h1 : ∀ em, (Instr.checkKey em 10000 kt k).run P w = .ok () w) (h2 : (Instr.findKey kt k arr.toList).run P w = .ok (some (j, x)) w) :
    (Builtin.delete_ (t :: ts).toArray ty #[.map (some b), k]).run P w = .ok (.tuple #[]) (mapW w b (arr.eraseIdxIfInBounds j) n) := by
  have e0 : ((t :: ts).toArray[0]? : Option TypeId) = some t := by simp
  simp only [Builtin.delete_, e0, List.getElem?_toArray, List.getElem?_cons_zero, List.getElem?_cons_succ, Sem.run_bind, run_underlying hu, Result.andThen_ok, MapKept.run_getObj_map hb, h1, h2, MapKept.run_setObj_map _ hb, Sem.run_pure, mapW]
theorem run_delete_none {t ty kt et : TypeId} {ts : List TypeId} {b n : Nat} {arr : Array MapEntry} {k : Value} (hu : P.underlying t = some (.map kt et)) (hb : w.heap[b]? = some (.map arr n))
    (h1 : ∀ em, (Instr.checkKey em 10000 kt k).run P w = .ok () w) (h2 : (Instr.findKey kt k arr.toList).run P w = .ok none w) :
    (Builtin.delete_ (t :: ts).toArray ty #[.map (some b), k]).run P w = .ok (.tuple #[]) (mapW w b arr n) := by
  have e0 : ((t :: ts).toArray[0]? : Option TypeId) = some t := by simp
  simp only [Builtin.delete_, e0, List.getElem?_toArray, List.getElem?_cons_zero, List.getElem?_cons_succ, Sem.run_bind, run_underlying hu, Result.andThen_ok, MapKept.run_getObj_map hb, h1, h2, MapKept.run_setObj_map _ hb, Sem.run_pure, mapW]
theorem filter_none {kk : AV} {es : List (AV × AV)} (h : ∀ e ∈ es, keyEq kk e.1 = false) : es.filter (fun e => !keyEq kk e.1) = es := List.filter_eq_self.2 fun e he => by simp [h e he]
theorem del_core {id b n : Nat} {es es' : List (AV × AV)} {ks : List Nat} {arr : Array MapEntry} (h : Rel P gl N g s a w) (hb : g.ρ id = some b) (A : MapAt P g w id b n es ks arr es') {t kt et : TypeId} (hu : P.underlying t = some (.map kt et)) (hk : mapKeyOk P kt ks = true)
    {kk : AV} {kv : Value} (hf : keyFit ks kk = true) (hkv : VR g kk kv) (ty : TypeId) (ts : List TypeId) :
    ∃ w', (Builtin.delete_ (t :: ts).toArray ty #[.map (some b), kv]).run P w = .ok (.tuple #[]) w' ∧ GLe g w g w' ∧ Rel P gl N g { s with heap := s.heap.set id (.map n (mapDel es kk)) } a w' := by
  obtain ⟨hck, hfd⟩ := A.find hk hf hkv
  obtain ⟨honce, hpw⟩ := A.once hf hkv
  have hself : keyEq kk kk = true := MapAt.self hf hkv
  have hdel := mapDel_filter (kk := kk) (hpw es (.refl _))
  rcases hfd with ⟨f1, f2, f3, f4⟩ | ⟨j, me, y, f1, f3, f4, f5, f6, f7⟩
  · refine ⟨_, run_delete_none hu A.blk hck f1, ?_⟩
    rw [hdel, filter_none f3]
    exact h.mapWrite hb A (Nat.le_refl _) A.perm A.len A.at_ A.born A.lt A.uniq A.fit (fun _ m hm => ⟨m, hm, rfl, rfl⟩)
  · refine ⟨_, run_delete_some hu A.blk hck f1, ?_⟩
    have hlt : j < arr.size := by have := (List.getElem?_eq_some_iff.1 f3).1; simpa using this
    have hto : (arr.eraseIdxIfInBounds j).toList = arr.toList.eraseIdx j := by
      simp [Array.eraseIdxIfInBounds, hlt]
    have hsub : List.Sublist (arr.eraseIdxIfInBounds j).toList arr.toList := by rw [hto]; exact List.eraseIdx_sublist _ _
    have her := erase_filter (kk := kk) (j := j) f5 hself (hpw es' A.perm)
    have := h.mapWrite (n' := n) (es2 := mapDel es kk) (es2' := es'.eraseIdx j) (arr' := arr.eraseIdxIfInBounds j) hb A (Nat.le_refl _)
      (by rw [her, hdel]; exact A.perm.filter _)
      (by rw [hto]; simp only [List.length_eraseIdx, A.len])
      (fun i e m he hm => by
        rw [hto] at hm
        rw [List.getElem?_eraseIdx] at he hm
        split at he
        · rename_i hi; rw [if_pos hi] at hm; exact A.at_ _ e m he hm
        · rename_i hi; rw [if_neg hi] at hm; exact A.at_ _ e m he hm)
      (A.born.sublist hsub) (fun m hm => A.lt m (hsub.subset hm))
      (by rw [hdel]; exact A.uniq.sublist List.filter_sublist)
      (fun e he => by rw [hdel] at he; exact A.fit e (List.mem_filter.1 he).1)
      (fun _ m hm => ⟨m, hsub.subset hm, rfl, rfl⟩)
    exact this
theorem sim_mdel {ks : List Nat} {d : Option Nat} {m k : Opd} (h : Rel P gl N g s a w) (hc : chkMdel P N o ks d m k = true) (he : ev gl s (.mdel ks d m k) = some s') : Sim1 P gl N o g a w s' := by
  simp only [chkMdel, Bool.and_eq_true] at hc
  obtain ⟨hd, hop⟩ := hc
  split at hop
  · rename_i m' k' t ts hbc
    simp only [Bool.and_eq_true] at hop
    obtain ⟨⟨hm, hk⟩, hop⟩ := hop
    split at hop
    · rename_i kt et hu
      simp only [ev] at he
      split at he
      · rename_i id kk e1 e2
        split at he
        · rename_i n es hid
          split at he
          · rename_i hf
            simp only [Bool.and_eq_true] at hf
            obtain ⟨b, r1, r2⟩ := h.heap _ _ hid
            obtain ⟨arr, es', A⟩ := r2.at hf.2
            obtain ⟨b', q1, q2⟩ := (evO_sound h hm e1).map_inv
            rw [r1] at q1; simp at q1; subst q1
            obtain ⟨w', p1, p2, p3⟩ := del_core h r1 A hu hop hf.1 (evO_sound h hk e2) o.type ts
            refine ⟨.tuple #[], w', g, .inl ?_, p2, ?_⟩
            · obtain ⟨cst, hrun⟩ := bcall_run (o := o) hbc rfl a.eval
              rw [hrun]
              simp only [List.map_cons, List.map_nil, builtin, q2, Sem.run_bind, p1, Result.andThen_ok, Sem.run_pure]
            · cases d with
              | none =>
                simp [St.putO] at he; subst he
                simp only [beq_iff_eq] at hd
                rw [hd]; exact p3
              | some d =>
                simp only [dstIs, Bool.and_eq_true, beq_iff_eq, decide_eq_true_eq] at hd
                rw [hd.1]
                exact p3.put he hd.2 (.tup _ [] .nil) (.of_ne fun _ _ _ h => by simp at h)
          · cases he
        · cases he
      · cases he
    · cases hop
  · cases hop

def chkLookT (P : Program) (N : Nat) (o : Oper) (ks : List Nat) (d : Nat) (m k : Opd) (zero : AV) : Bool := dstIs N o d &&
  (match o.op, zero with
   | .lookup t m' k' false, .list (some e) sz [] => chkOpd m' m && chkOpd k' k && okElem P e sz &&
      (match P.underlying t with | some (.map kt et) => mapKeyOk P kt ks && (match P.info? et with | some i => (match i.zero with | some (.slice none 0 0) => true | _ => false) | none => false) | _ => false)
   | _, _ => false)
/-- What an entry owns goes to a temporary. -/
theorem Rel.passEntry {id b n : Nat} {es es' : List (AV × AV)} {ks : List Nat} {arr : Array MapEntry} (h : Rel P gl N g s a w) (hb : g.ρ id = some b) (A : MapAt P g w id b n es ks arr es')
    {kk : AV} {kv : Value} (hf : keyFit ks kk = true) (hkv : VR g kk kv) {j e sz : Nat} {xs : List AV} {me : MapEntry} (hj : es'[j]? = some (kk, .list (some e) sz xs)) (hm : arr.toList[j]? = some me) {d : Nat} (hd : d < N)
    (hp : ({ s with heap := s.heap.set id (.map n (mapSet es kk (.list none sz xs))) } : St).put d (.list (some e) sz xs) = some s') :
    ∃ g', GLe g w g' w ∧ Rel P gl N g' s' (a.put (some d) me.val) w := by
  obtain ⟨honce, hpw⟩ := A.once hf hkv
  have hself : keyEq kk kk = true := MapAt.self hf hkv
  obtain ⟨c1, c2, c3, c4⟩ := A.at_ j _ _ hj hm
  have hset := set_map_repl (kk := kk) (x := .list none sz xs) hj hself (hpw es' A.perm)
  have hmap := mapSet_map (kk := kk) (x := .list none sz xs) (hpw es (.refl _))
  -- the state without what is owned
  have hstrip : ∀ g', GhLe g g' → (∀ bb, g.Ω bb ≠ .oc id me.born → g'.Ω bb = g.Ω bb) → (∀ bb, g'.Ω bb ≠ .none → g.Ω bb ≠ .none) → g'.γ = g.γ → g'.ρ = g.ρ →
      Rel P gl N g' { s with heap := s.heap.set id (.map n (mapSet es kk (.list none sz xs))) } a w := by
    intro g' hg hΩ hΩ' hγ hρ
    have hk : Kept g w g' w fun o => o ≠ .oc id me.born := fun bb hbb => ⟨hΩ bb hbb, rfl, fun o => by rw [hγ]⟩
    refine ⟨h.sorted, h.size, h.defers, fun t e he => (h.env t e he).kept hg hk (by simp) (by simp) (by simp), fun id' ob hob => ?_, fun b off v hv => h.gam b off v (by rw [← hγ]; exact hv), fun bb hbb => h.own bb (hΩ' bb hbb), fun n x hx => by rw [hγ]; exact h.glob n x hx, fun i b hi => by rw [hρ] at hi; simpa using h.rho i b hi⟩
    simp only at hob
    rw [List.getElem?_set] at hob
    split at hob
    · rename_i e0; subst e0
      split at hob
      · simp at hob; subst hob
        refine ⟨b, by rw [hρ]; exact hb, arr, A.blk, by rw [hΩ b (by rw [A.own]; simp)]; exact A.own, ⟨es'.set j (kk, .list none sz xs), by rw [hset, hmap]; exact A.perm.map _, by simp [A.len], fun i e0 m he hmi => ?_⟩, A.born, A.lt, ?_, ks, ?_⟩
        · rw [List.getElem?_set] at he
          split at he
          · rename_i hij; subst hij
            split at he
            · simp at he; subst he
              rw [hm] at hmi; simp at hmi; subst hmi
              exact ⟨c1.mono hg, c2, (c3.noOwn).mono hg, NotOwn.ownR (NotOwn.none _ _)⟩
            · cases he
          · rename_i hij
            obtain ⟨k1, k2, k3, k4⟩ := A.at_ i e0 m he hmi
            refine ⟨k1.mono hg, k2, k3.mono hg, k4.kept hg hk ?_⟩
            have hne : m.born ≠ me.born := by
              have hl1 := (List.getElem?_eq_some_iff.1 hmi).1
              have hl2 := (List.getElem?_eq_some_iff.1 hm).1
              have g1 := (List.getElem?_eq_some_iff.1 hmi).2
              have g2 := (List.getElem?_eq_some_iff.1 hm).2
              rcases Nat.lt_or_gt_of_ne hij with hlt | hlt
              · have := List.pairwise_iff_getElem.1 A.born j i hl2 hl1 hlt
                rw [g1, g2] at this; omega
              · have := List.pairwise_iff_getElem.1 A.born i j hl1 hl2 hlt
                rw [g1, g2] at this; omega
            simp [hne]
        · have hkeys : (es.map (repl kk (.list none sz xs))).map (·.1) = es.map (·.1) := by
            rw [List.map_map]
            refine List.map_congr_left fun e _ => ?_
            simp only [Function.comp, repl]; split <;> rfl
          have h1 : (es.map (·.1)).Pairwise fun x y => keyEq x y = false := List.pairwise_map.2 A.uniq
          rw [hmap]
          rw [← hkeys] at h1
          exact List.pairwise_map.1 h1
        · intro e0 he0
          rw [hmap] at he0
          obtain ⟨e1, h1, rfl⟩ := List.mem_map.1 he0
          have := A.fit e1 h1
          simp only [repl]; split <;> exact this
      · cases hob
    · rename_i hne
      exact (h.heap id' ob hob).kept hg hk (by simp) (fun i => by simp only [ne_eq, Owner.oc.injEq, not_and]; exact fun e => absurd e.symm hne)
  cases hbk : me.val.ownBlock with
  | none =>
    have h1 := hstrip g ⟨fun _ _ _ h => h, fun _ _ h => h⟩ (fun _ _ => rfl) (fun _ h => h) rfl rfl
    exact ⟨g, GLe.refl _ _, h1.put hp hd c3 (c4.free hbk)⟩
  | some bb =>
    obtain ⟨i, z, vs, m1, m2, m3, m4, m5, m6, m6', m7, m8⟩ := c4 e sz xs rfl
    let g' : Gh := { g with Ω := fun k => if k = bb then .var d else g.Ω k }
    have hg : GhLe g g' := ⟨fun _ _ _ h => h, fun _ _ h => h⟩
    have hΩ : ∀ k, g.Ω k ≠ .oc id me.born → g'.Ω k = g.Ω k := fun k hk => by
      have : k ≠ bb := by rintro rfl; exact hk (m8 k hbk).1
      simp [g', this]
    have h1 := hstrip g' hg hΩ (fun k hk => by
      by_cases e0 : k = bb
      · subst e0; rw [(m8 k hbk).1]; simp
      · simpa [g', e0] using hk) rfl rfl
    refine ⟨g', ⟨hg, fun k hk => ⟨by rw [hΩ k (by rw [hk]; simp)]; exact hk, rfl, fun _ => rfl⟩, Nat.le_refl _, rfl, rfl⟩, h1.put hp hd (c3.mono hg) (c4.pass bb hbk)⟩
theorem sim_lookT {ks : List Nat} {d : Nat} {m k : Opd} {zero : AV} (h : Rel P gl N g s a w) (hc : chkLookT P N o ks d m k zero = true) (he : ev gl s (.lookT ks d m k zero) = some s') : Sim1 P gl N o g a w s' := by
  simp only [chkLookT, Bool.and_eq_true] at hc
  obtain ⟨hd, hop⟩ := hc
  split at hop
  · rename_i t m' k' e0 sz0 ho
    simp only [Bool.and_eq_true] at hop
    obtain ⟨⟨⟨hm, hk⟩, hok⟩, hop⟩ := hop
    split at hop
    · rename_i kt et hu
      simp only [Bool.and_eq_true] at hop
      obtain ⟨hkt, hz⟩ := hop
      split at hz
      · rename_i i hi
        split at hz
        · rename_i hzv
          simp only [dstIs, Bool.and_eq_true, beq_iff_eq, decide_eq_true_eq] at hd
          simp only [ev] at he
          split at he
          · rename_i id kk e1 e2
            split at he
            · rename_i nn es hid
              split at he
              · rename_i hf
                simp only [Bool.and_eq_true] at hf
                obtain ⟨b, r1, r2⟩ := h.heap _ _ hid
                obtain ⟨arr, es', A⟩ := r2.at hf.2
                obtain ⟨b', q1, q2⟩ := (evO_sound h hm e1).map_inv
                rw [r1] at q1; simp at q1; subst q1
                have hkv := evO_sound h hk e2
                obtain ⟨hck, hfd⟩ := A.find hkt hf.1 hkv
                rcases hfd with ⟨f1, f2, _⟩ | ⟨j, me, x, f1, f2, f3, f4, f5, f6⟩
                · rw [f2] at he
                  refine ⟨.slice none 0 0, w, g, .inl ?_, GLe.refl _ _, ?_⟩
                  · simp only [execOp, ho, q2, Sem.run_bind, run_lookup_none hu A.blk hck f1 hi hzv, Result.andThen_ok, Sem.run_pure, Bool.false_eq_true, if_false]
                  · rw [hd.1]
                    exact h.put he hd.2 (.own _ _ _ _ (.list0 _ _ _)) (okElem_own hok _ _ _)
                · rw [f5] at he
                  split at he
                  · rename_i e sz xs hx
                    simp at hx; subst hx
                    obtain ⟨g', p1, p2⟩ := h.passEntry r1 A hf.1 hkv f4 f2 hd.2 he
                    refine ⟨me.val, w, g', .inl ?_, p1, ?_⟩
                    · simp only [execOp, ho, q2, Sem.run_bind, run_lookup_some hu A.blk hck f1, Result.andThen_ok, Sem.run_pure, Bool.false_eq_true, if_false]
                    · rw [hd.1]; exact p2
                  · cases he
                  · rename_i hx; simp at hx
              · cases he
            · cases he
          · cases he
        · cases hz
      · cases hz
    · cases hop
  · cases hop
end
end AM
/-! The simulation of ranges over maps. -/
namespace AM
open Go Go.Maps Go.ChangeMaps
section
variable {P : Program} {gl : Glob} {N : Nat} {g g' : Gh} {s s' : St} {a : Act} {w w' : World} {o : Oper} {γ γ' : Gam}

theorem scal_inj {c d : AV} {u : Value} (hc : (match c with | .str _ | .int _ _ | .bool _ => true | _ => false) = true) (hd : (match d with | .str _ | .int _ _ | .bool _ => true | _ => false) = true) (h1 : PR γ c u) (h2 : PR γ' d u) : c = d := by
  cases c <;> simp at hc <;> cases d <;> simp at hd <;> cases h1 <;> cases h2 <;> rfl
theorem PRs_inj : ∀ {us : List Value} {xs ys : List AV}, (xs.all fun | .str _ | .int _ _ | .bool _ => true | _ => false) = true → (ys.all fun | .str _ | .int _ _ | .bool _ => true | _ => false) = true → PRs γ xs us → PRs γ' ys us → xs = ys
  | [], _, _, _, _, h1, h2 => by cases h1; cases h2; rfl
  | u :: us, xs, ys, hx, hy, h1, h2 => by
    cases h1 with
    | cons c cs _ _ _ p1 p2 =>
      cases h2 with
      | cons d ds _ _ _ q1 q2 =>
        rw [List.all_cons, Bool.and_eq_true] at hx hy
        rw [scal_inj hx.1 hy.1 p1 q1, PRs_inj hx.2 hy.2 p2 q2]
/-- Keys of one value are one. -/
theorem key1_inj {x y : AV} {v : Value} (hx : key1 x = true) (hy : key1 y = true) (h1 : PR γ x v) (h2 : PR γ' y v) : x = y := by
  cases x <;> simp only [key1, Bool.false_eq_true] at hx <;> cases y <;> simp only [key1, Bool.false_eq_true] at hy
  case agg.agg cs ds =>
    cases h1 with
    | agg _ us p => 
      generalize hv : Value.agg us.toArray = v at h2
      cases h2 with
      | agg _ vs q =>
        have : us = vs := by simpa using hv
        subst this
        rw [PRs_inj hx hy p q]
  all_goals first | (cases h1; cases h2; rfl) | (cases h1; cases h2)
theorem eqs_self : ∀ {cs : List AV}, (cs.all fun | .str _ | .int _ _ | .bool _ => true | _ => false) = true → eqs cs cs = some true
  | [], _ => rfl
  | c :: cs, h => by
    rw [List.all_cons, Bool.and_eq_true] at h
    have := eqs_self h.2
    cases c <;> simp at h <;> simp [eqs, eq1, this]
theorem eqs_eq : ∀ {cs ds : List AV}, eqs cs ds = some true → cs = ds
  | [], [], _ => rfl
  | [], _ :: _, h => by simp [eqs] at h
  | _ :: _, [], h => by simp [eqs] at h
  | c :: cs, d :: ds, h => by
    simp only [eqs] at h
    split at h
    · rename_i p q hp hq
      simp only [Option.some.injEq, Bool.and_eq_true] at h
      rw [h.2] at hq
      have := eqs_eq hq
      subst this
      rw [h.1] at hp
      have : c = d := by
        cases c <;> cases d <;> simp [eq1] at hp
        · rw [hp]
        · rw [hp.1, hp.2]
        · rw [hp]
      rw [this]
    · cases h
theorem keyEq_eq {x y : AV} (hx : key1 x = true) (hy : key1 y = true) (h : keyEq x y = true) : x = y := by
  cases x <;> simp only [key1, Bool.false_eq_true] at hx <;> cases y <;> simp only [key1, Bool.false_eq_true] at hy <;> simp only [keyEq, Bool.false_eq_true] at h
  · simp only [Bool.and_eq_true, beq_iff_eq] at h; rw [h.1, h.2]
  · simp only [beq_iff_eq] at h; rw [h]
  · simp only [beq_iff_eq] at h; rw [eqs_eq h]
theorem keyEq_self {x : AV} (h : key1 x = true) : keyEq x x = true := by
  cases x <;> simp only [key1, Bool.false_eq_true] at h
  · simp [keyEq]
  · simp [keyEq]
  · simp only [keyEq, eqs_self h]; rfl
/-- A key's value needs no memory. -/
theorem VR.key1 {x : AV} {v : Value} (hx : AM.key1 x = true) (h : VR g x v) : PR γ x v := by
  cases x <;> simp only [AM.key1, Bool.false_eq_true] at hx
  · have := h.int_inv; subst this; exact .int _ _
  · obtain ⟨rfl, hl⟩ := h.str_inv; exact .str _ hl
  · rename_i cs
    obtain ⟨ws, rfl, h1, h2⟩ := h.agg_inv
    refine .agg _ _ ?_
    clear h
    induction ws generalizing cs with
    | nil => cases h1; exact .nil
    | cons w ws ih =>
      cases h1 with
      | cons c cs _ _ q1 q2 =>
        rw [List.all_cons, Bool.and_eq_true] at hx
        refine .cons _ _ _ _ (h2 w (by simp)) ?_ (ih cs hx.2 q2 (fun x hx => h2 x (by simp [hx])))
        cases c <;> simp at hx
        · have := q1.bool_inv; subst this; exact .bool _
        · have := q1.int_inv; subst this; exact .int _ _
        · obtain ⟨rfl, h⟩ := q1.str_inv; exact .str _ h

def chkRng (P : Program) (N : Nat) (o : Oper) (d : Nat) (m : Opd) : Bool := dstIs N o d &&
  (match o.op with | .range t m' => chkOpd m' m && (match P.underlying t with | some (.map _ _) => true | _ => false) | _ => false)
theorem run_range_map {t kt et : TypeId} {b n : Nat} {arr : Array MapEntry} (hu : P.underlying t = some (.map kt et)) (hb : w.heap[b]? = some (.map arr n)) :
    (Instr.range t (.map (some b))).run P w = .ok (ptrTo w.heap.size 0) (w.alloc (.mapIter (some b) n #[] n)) := by
  simp only [Instr.range, Sem.run_bind, run_underlying hu, Result.andThen_ok, MapKept.run_getObj_map hb, Sem.run_pure, newObj, Sem.run, ptrTo]
  rfl
theorem run_range_nil {t kt et : TypeId} (hu : P.underlying t = some (.map kt et)) : (Instr.range t (.map none)).run P w = .ok (ptrTo w.heap.size 0) (w.alloc (.mapIter none 0 #[] 0)) := by
  simp only [Instr.range, Sem.run_bind, run_underlying hu, Result.andThen_ok, Sem.run_pure, newObj, Sem.run, ptrTo]
  rfl
theorem sim_rng {d : Nat} {m : Opd} (h : Rel P gl N g s a w) (hc : chkRng P N o d m = true) (he : ev gl s (.rng d m) = some s') : Sim1 P gl N o g a w s' := by
  simp only [chkRng, Bool.and_eq_true] at hc
  obtain ⟨hd, hop⟩ := hc
  split at hop
  · rename_i t m' ho
    simp only [Bool.and_eq_true] at hop
    obtain ⟨hm, hop⟩ := hop
    split at hop
    · rename_i kt et hu
      simp only [dstIs, Bool.and_eq_true, beq_iff_eq, decide_eq_true_eq] at hd
      simp only [ev] at he
      split at he
      · rename_i id e1
        split at he
        · rename_i n es hid
          obtain ⟨b, r1, arr, r2, r3, ⟨es', r4, r5, r6⟩, r7, r8, r9, ks, r10⟩ := h.heap _ _ hid
          obtain ⟨b', q1, q2⟩ := (evO_sound h hm e1).map_inv
          rw [r1] at q1; simp at q1; subst q1
          have A : MapAt P g w id b n es ks arr es' := ⟨r2, r3, r4, r5, r6, r7, r8, r9, r10⟩
          have hlt : b < w.heap.size := h.own b (by rw [r3]; simp)
          obtain ⟨g', s1, s2, s3⟩ := h.allocO (.mapIter (some b) n #[] n) (.iter (some id) n []) (fun g' h1 h2 h3 => by
            have hbo : g'.Ω b = .ob id := by rw [h1]; simp [Gh.setO, show b ≠ w.heap.size by omega, r3]
            have hidlt := h.rho id b r1
            refine ⟨w.heap.size, _, h3, heap_alloc_new w _, by rw [h1]; simp [Gh.setO], h2.ρ _ _ r1, hbo, rfl, rfl, ?_, arr, n, by rw [heap_alloc_old w _ hlt]; exact r2, Nat.le_refl _⟩
            have hzip : ∀ x ∈ List.zipWith (fun (e : AV × AV) (m : MapEntry) => (e.1, m.born)) es' arr.toList, ∃ (i : Nat) (e : AV × AV) (m : MapEntry), es'[i]? = some e ∧ arr.toList[i]? = some m ∧ x = (e.1, m.born) := by
              intro x hx
              obtain ⟨i, hi, hxi⟩ := List.getElem_of_mem hx
              have hi' := hi
              simp only [List.length_zipWith] at hi'
              refine ⟨i, es'[i]'(by omega), arr.toList[i]'(by omega), by simp [show i < es'.length by omega], List.getElem?_eq_getElem _, ?_⟩
              rw [← hxi]; simp
            refine ⟨List.zipWith (fun (e : AV × AV) (m : MapEntry) => (e.1, m.born)) es' arr.toList, ?_, ?_, by simp, by simp, ?_⟩
            · rw [List.pairwise_iff_getElem]
              intro i j hi hj hij
              simp only [List.length_zipWith] at hi hj
              simp only [List.getElem_zipWith]
              refine ⟨?_, ?_⟩
              · have hne : es'.Pairwise fun x y => x.1 ≠ y.1 := (r4.symm.pairwise_iff (fun {x y} (h : x.1 ≠ y.1) => h.symm)).1 A.ne
                have hn := List.pairwise_iff_getElem.1 hne i j (by omega) (by omega) hij
                cases hh : keyEq es'[i].1 es'[j].1 with
                | false => rfl
                | true =>
                  have mi := r4.mem_iff.1 (List.getElem_mem (show i < es'.length by omega))
                  have mj := r4.mem_iff.1 (List.getElem_mem (show j < es'.length by omega))
                  obtain ⟨_, m1, _, _, k1⟩ := A.other' mi
                  obtain ⟨_, m2, _, _, k2⟩ := A.other' mj
                  exact absurd ((keyEq_iff (r10 _ mi) (r10 _ mj) (VR.key (γ := g.γ) (r10 _ mi) k1.1) (VR.key (γ := g.γ) (r10 _ mj) k2.1)).1 hh) hn
              · have := List.pairwise_iff_getElem.1 r7 i j (by omega) (by omega) hij
                omega
            · intro x hx
              obtain ⟨i, e, m, h4, h5, rfl⟩ := hzip x hx
              exact ⟨r8 m (List.mem_of_getElem? h5), (r6 i e m h4 h5).2.1⟩
            · intro arr2 harr2 m hm2
              rw [heap_alloc_old w _ hlt, r2] at harr2
              simp at harr2; subst harr2
              obtain ⟨i, e, h4, h5, h6, h7⟩ := A.other hm2
              refine ⟨e.1, ?_, VR.key1 h7.2.1 h7.1⟩
              have hi1 := (List.getElem?_eq_some_iff.1 h4).1
              have hi2 := (List.getElem?_eq_some_iff.1 h5).1
              refine List.mem_of_getElem? (i := i) ?_
              rw [List.getElem?_zipWith, h4, h5])
          refine ⟨ptrTo w.heap.size 0, _, g', .inl ?_, s1, ?_⟩
          · simp only [execOp, ho, q2, Sem.run_bind, run_range_map hu r2, Result.andThen_ok, Sem.run_pure]
          · rw [hd.1]
            exact s2.put he hd.2 (.ptr _ 0 _ s3) (notOwn_ptr _ _).ownR
        · cases he
      · rename_i e1
        have q := (evO_sound h hm e1).nilm_inv
        obtain ⟨g', s1, s2, s3⟩ := h.allocO (.mapIter none 0 #[] 0) (.iter none 0 []) (fun g' h1 h2 h3 => ⟨w.heap.size, _, h3, heap_alloc_new w _, by rw [h1]; simp [Gh.setO], trivial⟩)
        refine ⟨ptrTo w.heap.size 0, _, g', .inl ?_, s1, ?_⟩
        · simp only [execOp, ho, q, Sem.run_bind, run_range_nil hu, Result.andThen_ok, Sem.run_pure]
        · rw [hd.1]
          exact s2.put he hd.2 (.ptr _ 0 _ s3) (notOwn_ptr _ _).ownR
      · cases he
    · cases hop
  · cases hop

theorem mapGet_mem {k v : AV} : ∀ {es : List (AV × AV)}, mapGet es k = some v → ∃ k', (k', v) ∈ es ∧ keyEq k k' = true
  | [], h => by simp [mapGet] at h
  | (k', v') :: r, h => by
    simp only [mapGet] at h
    split at h
    · rename_i hk; simp at h; subst h; exact ⟨k', by simp, hk⟩
    · obtain ⟨k2, h1, h2⟩ := mapGet_mem h; exact ⟨k2, by simp [h1], h2⟩
def chkNxt (N : Nat) (o : Oper) (d : Nat) (it : Opd) : Bool := dstIs N o d && (match o.op with | .next it' false => chkOpd it' it | _ => false)
def chkEntr (N : Nat) (o : Oper) (d : Nat) (it : Opd) : Bool := dstIs N o d && (match o.op with | .entry it' => chkOpd it' it | _ => false)
theorem sim_entrV {d : Nat} {it : Opd} (h : Rel P gl N g s a w) (hc : chkEntr N o d it = true) (he : ev gl s (.entr d it) = some s') :
    ∃ x v, dstIs N o d = true ∧ s.put d x = some s' ∧ VR g x v ∧ NotOwn x ∧ (execOp a.eval o).run P w = .ok (.value v) w := by
  simp only [chkEntr, Bool.and_eq_true] at hc
  obtain ⟨hd, hop⟩ := hc
  split at hop
  · rename_i it' ho
    simp only [ev] at he
    split at he
    · rename_i id e1
      split at he
      · rename_i mid since seen hid
        split at he
        · rename_i n es k hmid hlast
          split at he
          · rename_i hn
            subst hn
            obtain ⟨v, hg, he⟩ := bind_some he
            obtain ⟨r, ob, p1, p2, p3, p4⟩ := h.heap _ _ hid
            obtain ⟨b', t1, t2⟩ := (evO_sound h hop e1).ptr_inv
            rw [p1] at t1; simp at t1; subst t1
            obtain ⟨b2', m1, arr', m2, m3, ⟨es', m4, m5, m6⟩, m7, m8, m9, ks, m10⟩ := h.heap _ _ hmid
            have A : MapAt P g w mid b2' n es ks arr' es' := ⟨m2, m3, m4, m5, m6, m7, m8, m9, m10⟩
            cases ob <;> simp only [IterR] at p4
            rename_i mp s0 ss last
            cases mp with
            | none => exact p4.elim
            | some bm =>
              obtain ⟨c1, c2, rfl, rfl, c5, _⟩ := p4
              rw [m1] at c1; simp at c1; subst c1
              obtain ⟨L, l1, l2, l3, l4, l5⟩ := c5
              -- the last of what was seen
              have hne : seen ≠ [] := by rintro rfl; simp at hlast
              have hlen : 0 < seen.length := List.length_pos_iff.2 hne
              have hsl : seen[seen.length - 1]? = some k := by rw [List.getLast?_eq_getElem?] at hlast; exact hlast
              have hssl : ∃ sl, ss.toList[seen.length - 1]? = some sl := by
                have : seen.length - 1 < ss.toList.length := by omega
                exact ⟨_, List.getElem?_eq_getElem this⟩
              obtain ⟨sl, hsl2⟩ := hssl
              have hkL := l4 _ _ _ hsl hsl2
              -- the entry at that key
              have hmem := mapGet_mem hg
              obtain ⟨k', hk1, hk2⟩ := hmem
              obtain ⟨i, m, hi1, hi2, hr⟩ := A.other' hk1
              obtain ⟨k2, hL2, hpr2⟩ := l5 _ m2 m (List.mem_of_getElem? hi2)
              have hkk : k2 = k' := key1_inj (l2 _ hL2).2 hr.2.1 hpr2 (VR.key1 (γ := fun _ _ => none) hr.2.1 hr.1)
              subst hkk
              -- one pair of the list
              have hpair : (k, sl) = (k2, m.born) := by
                obtain ⟨i1, hi1, e1⟩ := List.getElem_of_mem hkL
                obtain ⟨i2, hi2, e2⟩ := List.getElem_of_mem hL2
                rcases Nat.lt_trichotomy i1 i2 with hlt | rfl | hlt
                · have := (List.pairwise_iff_getElem.1 l1 i1 i2 hi1 hi2 hlt).1
                  rw [e1, e2] at this; simp only at this; rw [hk2] at this; cases this
                · rw [← e1, ← e2]
                · have := (List.pairwise_iff_getElem.1 l1 i2 i1 hi2 hi1 hlt).1
                  rw [e1, e2] at this; simp only at this
                  have e3 : k = k2 := keyEq_eq (l2 _ hkL).2 (l2 _ hL2).2 hk2
                  subst e3
                  have e4 : keyEq k k = true := hk2
                  rw [e4] at this; cases this
              obtain ⟨rfl, rfl⟩ := Prod.mk.inj hpair
              have hss : ss = (ss.pop).push m.born := by
                apply Array.ext'
                simp only [Array.toList_push, Array.toList_pop]
                have hl2 : ss.toList ≠ [] := by
                  intro e; have h9 := hlen; rw [l3, e] at h9; simp at h9
                rw [l3, ← List.getLast?_eq_getElem?] at hsl2
                rw [List.getLast?_eq_some_getLast hl2] at hsl2
                simp only [Option.some.injEq] at hsl2
                rw [← hsl2, List.dropLast_concat_getLast hl2]
              refine ⟨_, _, hd, he, .tup _ [m.key, m.val] (.cons _ _ _ _ hr.1 (.cons _ _ _ _ hr.2.2.1.noOwn .nil)), (fun _ _ _ h => by simp at h), ?_⟩
              rw [hss] at p2
              have hnd : (arr'.toList.map (·.born)).Nodup := by
                rw [List.Nodup, List.pairwise_map]
                exact m7.imp fun h => by omega
              have := run_entry_at (P := P) w r b2' _ _ arr' _ m p2 m2 (List.mem_of_getElem? hi2) hnd
              simp only [execOp, ho, t2, ptrTo, Sem.run_bind, this, Result.andThen_ok, Sem.run_pure]
          · cases he
        · cases he
      · cases he
    · cases he
  · cases hop

theorem sim_entr {d : Nat} {it : Opd} (h : Rel P gl N g s a w) (hc : chkEntr N o d it = true) (he : ev gl s (.entr d it) = some s') : Sim1 P gl N o g a w s' := by
  obtain ⟨x, v, q1, q2, q3, q4, q5⟩ := sim_entrV h hc he
  exact .value h q1 q2 q5 q3 q4

/-- A step of an iterator: nothing is left, or some entry that is left. -/
theorem nxt_run {it' : Operand} {it : Opd} {id since : Nat} {mo : Option Nat} {sn : List AV} {es : List (AV × AV)} (h : Rel P gl N g s a w) (ho : o.op = .next it' false) (hit : chkOpd it' it = true)
    {x : AV} (e1 : evO gl s.env it = some x) (hcd : cands s.heap x = some (id, mo, since, sn, es)) :
    (es = [] ∧ (execOp a.eval o).run P w = .ok (.value (.tuple #[.bool false])) w) ∨
    ∃ e ∈ es, ∃ w' v, (execOp a.eval o).run P w = .ok (.value v) w' ∧ GLe g w g w' ∧ VR g (.tup [.bool true, e.1, e.2.noOwn]) v ∧ Rel P gl N g { s with heap := s.heap.set id (.iter mo since (sn ++ [e.1])) } a w' ∧ ∀ r, g.ρ id = some r → w.grownBy w' (some r) := by
  have hrun : ∀ v r w', (a.eval it') = v → (Instr.next v false o.type).run P w = .ok r w' → (execOp a.eval o).run P w = .ok (.value r) w' := by
    intro v r w' hv hr
    simp only [execOp, ho, hv, Sem.run_bind, hr, Result.andThen_ok, Sem.run_pure]
  unfold cands at hcd
  split at hcd
  · rename_i id0
    obtain ⟨r, hr1, hr2⟩ := (evO_sound h hit e1).ptr_inv
    split at hcd
    · rename_i since0 sn0 hid
      simp at hcd
      obtain ⟨rfl, rfl, rfl, rfl, rfl⟩ := hcd
      obtain ⟨r', ob, p1, p2, p3, p4⟩ := h.heap _ _ hid
      rw [hr1] at p1; simp at p1; subst p1
      cases ob <;> simp only [IterR] at p4
      rename_i mp s0 ss last
      cases mp with
      | some bm => exact p4.elim
      | none =>
        refine .inl ⟨rfl, hrun _ _ _ hr2 ?_⟩
        simp [Instr.next, ptrTo, getObj, Sem.run, p2]
    · rename_i mid since0 sn0 hid
      split at hcd
      · rename_i n es0 hmid
        split at hcd
        · rename_i hn
          simp at hcd
          obtain ⟨rfl, rfl, rfl, rfl, rfl⟩ := hcd
          subst hn
          obtain ⟨r', ob, p1, p2, p3, p4⟩ := h.heap _ _ hid
          rw [hr1] at p1; simp at p1; subst p1
          obtain ⟨bm, m1, arr, m2, m3, ⟨es', m4, m5, m6⟩, m7, m8, m9, ks, m10⟩ := h.heap _ _ hmid
          have A : MapAt P g w mid bm n es0 ks arr es' := ⟨m2, m3, m4, m5, m6, m7, m8, m9, m10⟩
          cases ob <;> simp only [IterR] at p4
          rename_i mp s0 ss last
          cases mp with
          | none => exact p4.elim
          | some bm' =>
            obtain ⟨c1, c2, rfl, rfl, c5, c6⟩ := p4
            rw [m1] at c1; simp at c1; subst c1
            obtain ⟨L, l1, l2, l3, l4, l5⟩ := c5
            have honceK : ∀ k i j, (k, i) ∈ L → (k, j) ∈ L → i = j := by
              intro k i j h1 h2
              obtain ⟨i1, hi1, e1⟩ := List.getElem_of_mem h1
              obtain ⟨i2, hi2, e2⟩ := List.getElem_of_mem h2
              rcases Nat.lt_trichotomy i1 i2 with hlt | rfl | hlt
              · have := (List.pairwise_iff_getElem.1 l1 i1 i2 hi1 hi2 hlt).1
                rw [e1, e2] at this; simp only [keyEq_self (l2 _ h1).2] at this; cases this
              · rw [e1] at e2; simpa using e2
              · have := (List.pairwise_iff_getElem.1 l1 i2 i1 hi2 hi1 hlt).1
                rw [e1, e2] at this; simp only [keyEq_self (l2 _ h1).2] at this; cases this
            have honceB : ∀ k k' i, (k, i) ∈ L → (k', i) ∈ L → k = k' := by
              intro k k' i h1 h2
              obtain ⟨i1, hi1, e1⟩ := List.getElem_of_mem h1
              obtain ⟨i2, hi2, e2⟩ := List.getElem_of_mem h2
              rcases Nat.lt_trichotomy i1 i2 with hlt | rfl | hlt
              · have := (List.pairwise_iff_getElem.1 l1 i1 i2 hi1 hi2 hlt).2
                rw [e1, e2] at this; simp at this
              · rw [e1] at e2; simp at e2; exact e2
              · have := (List.pairwise_iff_getElem.1 l1 i2 i1 hi2 hi1 hlt).2
                rw [e1, e2] at this; simp at this
            -- an entry is left on one side where it is on the other
            have hside : ∀ (i : Nat) e m, es'[i]? = some e → arr.toList[i]? = some m → (e.1, m.born) ∈ L ∧ (ss.contains m.born = sn0.any (keyEq e.1)) := by
              intro i e m h1 h2
              have hr := m6 i e m h1 h2
              obtain ⟨k2, hL2, hpr2⟩ := l5 _ m2 m (List.mem_of_getElem? h2)
              have hkk : k2 = e.1 := key1_inj (l2 _ hL2).2 hr.2.1 hpr2 (VR.key1 (γ := fun _ _ => none) hr.2.1 hr.1)
              subst hkk
              refine ⟨hL2, ?_⟩
              rw [Bool.eq_iff_iff]
              constructor
              · intro hc
                have hc' : m.born ∈ ss.toList := by simpa using hc
                obtain ⟨j, hj, hje⟩ := List.getElem_of_mem hc'
                have hjs : j < sn0.length := by omega
                have hL := l4 j sn0[j] m.born (by simp [hjs]) (by rw [List.getElem?_eq_getElem hj, hje])
                have := honceB _ _ _ hL hL2
                rw [List.any_eq_true]
                exact ⟨sn0[j], List.getElem_mem hjs, by rw [this]; exact keyEq_self hr.2.1⟩
              · intro hc
                rw [List.any_eq_true] at hc
                obtain ⟨k, hk, hke⟩ := hc
                obtain ⟨j, hj, hje⟩ := List.getElem_of_mem hk
                have hjs : j < ss.toList.length := by omega
                have hL := l4 j k ss.toList[j] (by rw [List.getElem?_eq_getElem hj, hje]) (List.getElem?_eq_getElem hjs)
                have hkk : e.1 = k := keyEq_eq hr.2.1 (l2 _ hL).2 hke
                rw [← hkk] at hL
                have := honceK _ _ _ hL hL2
                have : m.born ∈ ss.toList := by rw [← this]; exact List.getElem_mem hjs
                simpa using this
            have hold : ∀ x ∈ arr.toList, x.born < last := m8
            rcases run_next_at (P := P) w o.type r bm last last ss arr last p2 m2 hold (Nat.le_refl _) with ⟨hz, hrn⟩ | ⟨m, hm, w1, hw1, hrn⟩
            · refine .inl ⟨?_, hrun _ _ _ hr2 (by simpa [ptrTo] using hrn)⟩
              rw [List.filter_eq_nil_iff]
              intro e he
              obtain ⟨i, m, h1, h2, hr⟩ := A.other' he
              obtain ⟨_, h3⟩ := hside i e m h1 h2
              rw [← h3]
              have hnone : leftOf arr ss = #[] := Array.eq_empty_of_size_eq_zero hz
              unfold leftOf at hnone
              rw [Array.filter_eq_empty_iff] at hnone
              have := hnone m (by have := List.mem_of_getElem? h2; simpa using this)
              simpa using this
            · have hm' : m ∈ arr.toList ∧ ss.contains m.born = false := by
                unfold leftOf at hm
                simp at hm
                refine ⟨by simpa using hm.1, by simpa using hm.2⟩
              obtain ⟨i, e, h1, h2, h3, h4⟩ := A.other hm'.1
              obtain ⟨h5, h6⟩ := hside i e m h1 h2
              have hΩ : g.Ω r = .ob id0 := p3
              have hne : id0 ≠ mid := by
                rintro rfl
                rw [hr1] at m1; simp at m1; subst m1
                rw [m2] at p2; cases p2
              have hrbm : r ≠ bm := by
                rintro rfl
                rw [m2] at p2; cases p2
              have hheap : ∀ k, k ≠ r → (setBlock w1 r (.mapIter (some bm) last (ss.push m.born) last)).heap[k]? = w.heap[k]? := by
                intro k hk
                have : w1.heap = w.heap := by rcases hw1 with rfl | rfl <;> rfl
                simp only [setBlock, this]
                simp [Array.getElem?_setIfInBounds_ne (Ne.symm hk)]
              have hheapr : (setBlock w1 r (.mapIter (some bm) last (ss.push m.born) last)).heap[r]? = some (.mapIter (some bm) last (ss.push m.born) last) := by
                have : w1.heap = w.heap := by rcases hw1 with rfl | rfl <;> rfl
                have hlt : r < w.heap.size := (Array.getElem?_eq_some_iff.1 p2).1
                simp [setBlock, this, hlt]
              have hsize : (setBlock w1 r (.mapIter (some bm) last (ss.push m.born) last)).heap.size = w.heap.size := by
                have : w1.heap = w.heap := by rcases hw1 with rfl | rfl <;> rfl
                simp [setBlock, this]
              have hos : ((setBlock w1 r (.mapIter (some bm) last (ss.push m.born) last)).os, (setBlock w1 r (.mapIter (some bm) last (ss.push m.born) last)).tape) = (w.os, w.tape) ∧ (setBlock w1 r (.mapIter (some bm) last (ss.push m.born) last)).output = w.output := by
                rcases hw1 with rfl | rfl <;> exact ⟨rfl, rfl⟩
              generalize hwd : setBlock w1 r (.mapIter (some bm) last (ss.push m.born) last) = wd at hheap hheapr hsize hrn hos
              have hg : GhLe g g := ⟨fun _ _ _ h => h, fun _ _ h => h⟩
              have hk : Kept g w g wd fun o => o ≠ .ob id0 := fun k hk => ⟨rfl, hheap k (fun e => hk (by rw [e, hΩ])), fun _ => rfl⟩
              refine .inr ⟨e, ?_, wd, _, hrun _ _ _ hr2 (by simpa [ptrTo] using hrn), ⟨hg, fun k hk => ⟨hk, hheap k (fun e => by rw [e, hΩ] at hk; cases hk), fun _ => rfl⟩, by rw [hsize]; exact Nat.le_refl _, hos.1, hos.2⟩, ?_, ?_, fun r' hr' => by rw [hr1] at hr'; simp at hr'; subst hr'; exact ⟨congrArg Prod.fst hos.1, congrArg Prod.snd hos.1, hos.2, by rw [hsize]; exact Nat.le_refl _, fun k _ hk => hheap k (fun e => hk (by rw [e]))⟩⟩
              · rw [List.mem_filter]
                refine ⟨h3, ?_⟩
                rw [← h6, hm'.2]; rfl
              · exact .tup _ [.bool true, m.key, m.val] (.cons _ _ _ _ (.pure _ _ (.bool _)) (.cons _ _ _ _ h4.1 (.cons _ _ _ _ h4.2.2.1.noOwn .nil)))
              · refine ⟨h.sorted, h.size, h.defers, fun t e he => (h.env t e he).kept hg hk (by simp) (by simp) (by simp), fun id' ob hob => ?_, fun k off v hv => ?_, fun k hk => by rw [hsize]; exact h.own k hk, h.glob, fun i b hi => by simpa using h.rho i b hi⟩
                · simp only at hob
                  rw [List.getElem?_set] at hob
                  split at hob
                  · rename_i e0; subst e0
                    split at hob
                    · simp at hob; subst hob
                      refine ⟨r, _, hr1, hheapr, hΩ, m1, c2, rfl, rfl, ⟨L, l1, l2, by simp [l3], fun i k sb hk' hs' => ?_, fun arr2 ha m' hm'' => ?_⟩, arr, last, by rw [hheap bm (Ne.symm hrbm)]; exact m2, Nat.le_refl _⟩
                      · by_cases hi : i < sn0.length
                        · rw [List.getElem?_append_left hi] at hk'
                          rw [Array.toList_push, List.getElem?_append_left (by omega)] at hs'
                          exact l4 i k sb hk' hs'
                        · rw [List.getElem?_append_right (by omega)] at hk'
                          rw [Array.toList_push, List.getElem?_append_right (by omega)] at hs'
                          have hz : i - sn0.length = 0 := by have := (List.getElem?_eq_some_iff.1 hk').1; simp at this; omega
                          rw [← l3] at hs'
                          rw [hz] at hk' hs'
                          simp at hk' hs'; subst hk' hs'
                          exact h5
                      · rw [hheap bm (Ne.symm hrbm)] at ha
                        exact l5 arr2 ha m' hm''
                    · cases hob
                  · rename_i e0
                    exact (h.heap id' ob hob).beside hg hk (fun h => e0 h.symm) hr1 (by simp [p2]) (by simp) (by simp)
                · have hv' := h.gam k off v hv
                  by_cases e0 : k = r
                  · subst e0
                    unfold World.cell? at hv'
                    rw [p2] at hv'; simp at hv'
                  · unfold World.cell? at hv' ⊢
                    rw [hheap k e0]; exact hv'
        · cases hcd
      · cases hcd
    · cases hcd
  · cases hcd
end
end AM
/-! The simulation of clones, of strings over bytes, of functions without a body. -/
namespace AM
open Go
section
variable {P : Program} {gl : Glob} {N : Nat} {g g' : Gh} {s s' : St} {a : Act} {w w' : World} {o : Oper}

def zeroBnd : Option Operand → Bool
  | some (.const (.int _ 0)) => true
  | _ => false
theorem zeroBnd_spec {x : Option Operand} (h : zeroBnd x = true) : ∃ k, x = some (.const (.int k 0)) := by
  unfold zeroBnd at h
  split at h
  · exact ⟨_, rfl⟩
  · cases h
def chkClo (P : Program) (N : Nat) (o : Oper) (d : Nat) (x : Opd) (sz : Nat) : Bool := dstIs N o d &&
  (match o.op with
   | .slice t x' lo hi mx => chkOpd x' x && sliceOk P t sz && (lo.isNone || zeroBnd lo) && zeroBnd hi && zeroBnd mx
   | _ => false)
theorem run_zero_bound {k : IntKind} {y : Nat} {code : BoundsCode} : (Instr.sliceBound (.int k 0) y code).run P w = .ok 0 w := by
  simp [Instr.sliceBound, asIntOf]
theorem run_slice_clo {t e : TypeId} {f : TypeInfo} {base : Option Addr} {len cap : Nat} {lo : Option Value} {k' k'' : IntKind} (hl : lo = none ∨ ∃ k, lo = some (.int k 0)) (hu : P.underlying t = some (.slice e)) (hf : P.info? e = some f) :
    (Instr.sliceAt t (.slice base len cap) lo (some (.int k' 0)) (some (.int k'' 0))).run P w = .ok (.slice base 0 0) w := by
  rcases hl with rfl | ⟨k, rfl⟩ <;>
    simp [Instr.sliceAt, Instr.slice, run_underlying hu, Instr.sliceBounds, run_zero_bound, Go.sizeOf, typeInfo, hf]
theorem sliceOk_spec {t sz : Nat} (h : sliceOk P t sz = true) : ∃ e f, P.underlying t = some (.slice e) ∧ P.info? e = some f ∧ f.size = sz := by
  unfold sliceOk at h
  split at h
  · rename_i e hu
    split at h
    · rename_i f hf
      exact ⟨e, f, hu, hf, by simpa using h⟩
    · cases h
  · cases h
theorem notOwn_nilc (sz : Nat) : NotOwn (.nilc sz) := fun _ _ _ h => by simp at h
theorem sim_clo {d sz : Nat} {x : Opd} (h : Rel P gl N g s a w) (hc : chkClo P N o d x sz = true) (he : ev gl s (.clo d x sz) = some s') : Sim1 P gl N o g a w s' := by
  simp only [chkClo, Bool.and_eq_true] at hc
  obtain ⟨hd, hop⟩ := hc
  split at hop
  · rename_i t x' lo hi mx ho
    simp only [Bool.and_eq_true, Bool.or_eq_true] at hop
    obtain ⟨⟨⟨⟨hx, hk⟩, hlo⟩, hhi⟩, hmx⟩ := hop
    obtain ⟨e, f, hu, hf, _⟩ := sliceOk_spec hk
    obtain ⟨k1, rfl⟩ := zeroBnd_spec hhi
    obtain ⟨k2, rfl⟩ := zeroBnd_spec hmx
    have hl : lo.map a.eval = none ∨ ∃ k, lo.map a.eval = some (.int k 0) := by
      rcases hlo with hlo | hlo
      · left; cases lo <;> simp_all
      · right; obtain ⟨k, rfl⟩ := zeroBnd_spec hlo; exact ⟨k, rfl⟩
    have hrun : ∀ base len cap, a.eval x' = .slice base len cap → (execOp a.eval o).run P w = .ok (.value (.slice base 0 0)) w := fun base len cap hv => by
      have e0 : ∀ k, a.eval (.const (.int k 0)) = .int k 0 := fun _ => rfl
      simp only [execOp, ho, hv, Option.map_some, e0, Sem.run_bind, run_slice_clo hl hu hf, Result.andThen_ok, Sem.run_pure]
    simp only [ev] at he
    split at he
    · rename_i own sz' xs e1
      split at he
      · obtain ⟨base, cap, q1, _⟩ := (evO_sound h hx e1).list_inv
        exact .value h hd he (hrun _ _ _ q1) (.nilc _ _) (notOwn_nilc _)
      · cases he
    · rename_i sz' e1
      split at he
      · have q1 := (evO_sound h hx e1).nils_inv
        exact .value h hd he (hrun _ _ _ q1) (.nilc _ _) (notOwn_nilc _)
      · cases he
    · cases he
  · cases hop
theorem VR.nilc_inv {sz : Nat} {v : Value} (h : VR g (.nilc sz) v) : ∃ base, v = .slice base 0 0 := by
  cases h with
  | pure _ _ h => cases h
  | nilc _ base => exact ⟨base, rfl⟩

/-- An append to a slice without room. -/
theorem run_appc {t ty e : TypeId} {i : TypeInfo} {z : Value} (hu : P.underlying t = some (.slice e)) (hi : P.info? e = some i) (hz : i.zero = some z) (hzs : z.cells.size = i.size)
    (base : Option Addr) {ad : Addr} {m c : Nat} {news : List Value} (hl : news.length = m * i.size)
    (hnews : ∀ j u, news[j]? = some u → w.cell? (ad.add j) = some u) (hm : 0 < m) (h63 : m ≤ M) (hb : i.bytes ≤ 128) :
    ∃ v' w', (Builtin.append_ #[t, t] ty #[.slice base 0 0, .slice (some ad) m c]).run P w = .ok v' w' ∧ w'.ownsRow 0 e i.size v' m news ∧
      v'.ownBlock = some w.heap.size ∧ w.heap.size < w'.heap.size ∧ (∀ k, k < w.heap.size → w'.heap[k]? = w.heap[k]?) ∧ ((w'.os, w'.tape) = (w.os, w.tape) ∧ w'.output = w.output) := by
  unfold M at h63
  have hbytes : m * i.bytes ≤ 140737488355328 := by
    calc m * i.bytes ≤ 1099511627776 * 128 := Nat.mul_le_mul (by omega) hb
      _ = 140737488355328 := by decide
  have hmax : m ≤ maxLen := by unfold maxLen; omega
  have grown : (w.drew.alloc (.cells (#[] ++ news.toArray ++ Builtin.zeroCells z.cells (grownCap w m 0 e - m)) e)).ownsRow 0 e i.size
        (.slice (some ⟨w.heap.size, 0, none⟩) m (grownCap w m 0 e)) m news := by
    have hge := grownCap_ge w m 0 e
    have hcm : grownCap w m 0 e ≤ maxLen := grownCap_le_maxLen w m 0 e hmax
    refine ⟨hl, .inr ⟨w.heap.size, _, _, rfl, Nat.zero_le _, heap_alloc_new w.drew _, hge, hcm, ?_, ?_⟩⟩
    · simp only [Array.empty_append, Array.size_append, List.size_toArray, size_zeroCells, hzs, hl, ← Nat.add_mul]
      congr 1; omega
    · simp only [Array.empty_append, Array.toList_append]
      rw [← hl]
      exact List.take_left
  have hend : ∀ k, k < w.heap.size → (w.drew.alloc (.cells (#[] ++ news.toArray ++ Builtin.zeroCells z.cells (grownCap w m 0 e - m)) e)).heap[k]? = w.heap[k]? := fun k hk => heap_alloc_old w.drew _ hk
  cases base with
  | none =>
    have hr := run_append_nil (P := P) w t ty e i z hu hi hz ad m c news hl hnews hm (by omega) (by omega)
    rw [show (news.toArray ++ Builtin.zeroCells z.cells (grownCap w m 0 e - m)) = (#[] ++ news.toArray ++ Builtin.zeroCells z.cells (grownCap w m 0 e - m)) by simp] at hr
    exact ⟨_, _, hr, grown, rfl, by rw [alloc_size]; show w.heap.size < w.heap.size + 1; omega, hend, rfl, rfl⟩
  | some b =>
    have hr := run_append_grow (P := P) w t ty e i z hu hi hz b 0 0 [] (by simp) (by simp) ad m c news hl hnews (by omega) (by omega) (growslice_fits (by omega) (by simpa using hbytes))
    simp only [Nat.zero_add] at hr
    exact ⟨_, _, hr, grown, rfl, by rw [alloc_size]; show w.heap.size < w.heap.size + 1; omega, hend, rfl, rfl⟩
theorem run_appc_zero {t ty e : TypeId} {i : TypeInfo} (hu : P.underlying t = some (.slice e)) (hi : P.info? e = some i) (base base' : Option Addr) (c : Nat) :
    (Builtin.append_ #[t, t] ty #[.slice base 0 0, .slice base' 0 c]).run P w = .ok (.slice base 0 0) w := by
  cases base <;> cases base' <;> simp [Builtin.append_, run_underlying hu, Go.sizeOf, typeInfo, hi, Builtin.lenOf, Builtin.firstCells, loadCells, loadCellsFrom, storeCells]
def chkAppc (P : Program) (N : Nat) (o : Oper) (d u : Nat) (x : Opd) (e sz : Nat) : Bool := chkApp P N o d u x e sz
theorem sim_appc {d u : Nat} {x : Opd} {e sz : Nat} (h : Rel P gl N g s a w) (hc : chkAppc P N o d u x e sz = true) (he : ev gl s (.appc d u x e sz) = some s') : Sim1 P gl N o g a w s' := by
  simp only [chkAppc, chkApp, Bool.and_eq_true] at hc
  obtain ⟨hd, hop⟩ := hc
  split at hop
  · rename_i u' x' t t' ho
    obtain ⟨cst, hrun⟩ := bcall_run (o := o) ho rfl a.eval
    simp only [Bool.and_eq_true, beq_iff_eq] at hop
    obtain ⟨⟨⟨rfl, rfl⟩, hx⟩, hk⟩ := hop
    obtain ⟨hu, hk⟩ := elemOk_spec hk
    have hd' := hd
    simp only [dstIs, Bool.and_eq_true, beq_iff_eq, decide_eq_true_eq] at hd'
    simp only [ev] at he
    split at he
    · rename_i sz' sz'' ys hs hy
      obtain ⟨y, hy, hyl⟩ := bind_some hy
      split at he
      · rename_i hb
        obtain ⟨rfl, rfl, hM⟩ := hb
        obtain ⟨v, p1, p2, _⟩ := h.env _ _ hs
        obtain ⟨bs, rfl⟩ := p2.nilc_inv
        obtain ⟨i, z, r1, r2, r3, r4, r5, r6⟩ := okElem_spec hk
        obtain ⟨base, cap, q1, q2, q3⟩ := VR.lst_inv (evO_sound h hx hy) hyl
        have hev : a.eval (.tmp u') = .slice bs 0 0 := by simp [Act.eval, p1]
        cases ys with
        | nil =>
          have hr := run_appc_zero (P := P) (w := w) (ty := o.type) hu r1 bs base cap
          simp only at he
          refine .value (v := .slice bs 0 0) h hd he ?_ (.pure _ _ (.list0 _ _ _)) (NotOwn.none _ _)
          rw [hrun]
          simp only [builtin, List.map_cons, List.map_nil, hev, q1, List.length_nil, Sem.run_bind, hr, Result.andThen_ok, Sem.run_pure]
        | cons y0 ys0 =>
          simp only at he
          generalize hys : y0 :: ys0 = ys at he q1 q2 q3 hM
          have hne : ys ≠ [] := by rw [← hys]; simp
          rcases q3 with q3 | ⟨b, off, rfl, q4⟩
          · exact absurd q3 hne
          obtain ⟨rows, m1, m2, m3, m4, m5⟩ := q4.vals
          have hnews : ∀ j u, rows.flatten[j]? = some u → w.cell? ((⟨b, off, none⟩ : Addr).add j) = some u := fun j u hj => by rw [addr_add]; exact h.gam _ _ _ (m5 j u hj)
          have hpos : 0 < ys.length := List.length_pos_iff.2 hne
          obtain ⟨v', w', k1, k2, k3, k4, k5, k0⟩ := run_appc (P := P) (w := w) (ty := o.type) (c := cap) hu r1 r4 (by omega) bs (by rw [m4, r2]) hnews hpos hM r6
          subst r2
          refine app_core (u := u') (rows := rows) (xs := []) (v := .slice none 0 0) h (⟨fun t y ht hy => by simp at ht; subst ht; rw [hs] at hy; simp at hy; subst hy; exact notOwn_nilc _, by simp, by simp, by simp, by simp, by simp⟩) r1 r3 r4 (by omega) r6 (World.ownsRow_nil _ _ _ _)
            (fun b hb => by simp [Value.ownBlock] at hb) (fun _ _ _ _ => .nil _ _ _) m1 m2 (by simpa using hM) (by simpa using k2) (by omega) k0 (.inr ⟨k3, k4, k5⟩) hd' (by simpa using he) ?_
          rw [hrun]
          simp only [builtin, List.map_cons, List.map_nil, hev, q1, Sem.run_bind, k1, Result.andThen_ok, Sem.run_pure]
      · cases he
    · cases he
  · cases hop

def chkSdata (N : Nat) (o : Oper) (d : Nat) (x : Opd) : Bool := dstIs N o d && (match bcall o.op with | some (.unsafeSliceData, [x'], _) => chkOpd x' x | _ => false)
theorem sim_sdata {d : Nat} {x : Opd} (h : Rel P gl N g s a w) (hc : chkSdata N o d x = true) (he : ev gl s (.sdata d x) = some s') : Sim1 P gl N o g a w s' := by
  simp only [chkSdata, Bool.and_eq_true] at hc
  obtain ⟨hd, hop⟩ := hc
  split at hop
  · rename_i x' ts ho
    obtain ⟨cst, hrun⟩ := bcall_run (o := o) ho rfl a.eval
    simp only [ev] at he
    split at he
    · rename_i id off n sz e1
      split at he
      · rename_i hn
        obtain ⟨b, k, cap, q1, q2, q3, q4, q5⟩ := (evO_sound h hop e1).sl_inv
        refine .value h hd he ?_ (.ptr _ _ _ q1) (notOwn_ptr _ _)
        rw [hrun]
        simp only [builtin, List.map_cons, List.map_nil, q5, Sem.run_bind, Lib.run_unsafeSliceData_row w _ _ _ _ _ (show cap ≠ 0 by omega), Result.andThen_ok, Sem.run_pure]
      · cases he
    · rename_i sz e1
      have q := (evO_sound h hop e1).nils_inv
      refine .value h hd he ?_ (.pure _ _ .nilp) (fun _ _ _ h => by simp at h)
      rw [hrun]
      simp only [builtin, List.map_cons, List.map_nil, q, Sem.run_bind, Lib.run_unsafeSliceData_nil, Result.andThen_ok, Sem.run_pure]
    · cases he
  · cases hop

def chkUstr (P : Program) (N : Nat) (o : Oper) (d e : Nat) (x n : Opd) : Bool := dstIs N o d &&
  (match bcall o.op with | some (.unsafeString, [x', n'], [pt, _]) => chkOpd x' x && chkOpd n' n && P.cellsOf e == 1 && (match P.underlying pt with | some (.pointer e') => e' == e | _ => false) | _ => false)
theorem bytesOf_spec : ∀ {cs : List AV} {b : List UInt8} {us : List Value}, bytesOf cs = some b → VRs g cs us → us = b.map fun c => .int .u8 c.toNat
  | [], b, us, h, hv => by simp [bytesOf] at h; subst h; cases hv; rfl
  | c :: cs, b, us, h, hv => by
    cases hv with
    | cons _ _ v vs h1 h2 =>
      unfold bytesOf at h
      split at h
      · rename_i h'; cases h'
      · rename_i n r h'
        simp at h'; obtain ⟨rfl, rfl⟩ := h'
        split at h
        · rename_i hn
          rw [Option.map_eq_some_iff] at h
          obtain ⟨b', hb', rfl⟩ := h
          have e1 := h1.int_inv
          have e2 := bytesOf_spec hb' h2
          subst e1 e2
          simp only [List.map_cons, List.cons.injEq, and_true]
          congr 1
          have : (UInt8.ofNat n.toNat).toNat = n.toNat := by
            rw [UInt8.toNat_ofNat']
            exact Nat.mod_eq_of_lt (by omega)
          rw [this]; omega
        · cases h
      · cases h
theorem freeze_heap {b n : Nat} (h0 : n ≠ 0) (w : World) (k : Nat) (hk : k ≠ b) : (w.freeze ⟨b, 0, none⟩ n).heap[k]? = w.heap[k]? := by
  simp [World.freeze, h0, Array.getElem?_modify, Ne.symm hk]
theorem freeze_size {b n : Nat} (w : World) : (w.freeze ⟨b, 0, none⟩ n).heap.size = w.heap.size := by
  unfold World.freeze; split <;> simp
theorem Rel.dead (h : Rel P gl N g s a w) (id : Nat) : Rel P gl N g { s with heap := s.heap.set id .dead } a w := by
  refine ⟨h.sorted, h.size, h.defers, h.env, fun id' ob hob => ?_, h.gam, h.own, h.glob, fun i b hi => by simpa using h.rho i b hi⟩
  simp only at hob
  rw [List.getElem?_set] at hob
  split at hob
  · split at hob
    · simp at hob; subst hob; trivial
    · cases hob
  · exact h.heap id' ob hob
/-- The block of a dead object is touched. -/
theorem Rel.touch (h : Rel P gl N g s a w) {id b : Nat} (hid : s.heap[id]? = some .dead) (hb : g.ρ id = some b) (ho : g.Ω b = .ob id) (hγ : ∀ off, g.γ b off = none) (hm : ∀ arr n, w.heap[b]? ≠ some (.map arr n)) (hs : w'.heap.size = w.heap.size) (hw : ∀ k, k ≠ b → w'.heap[k]? = w.heap[k]?) (hos : (w'.os, w'.tape) = (w.os, w.tape) ∧ w'.output = w.output) :
    GLe g w g w' ∧ Rel P gl N g s a w' := by
  have hg : GhLe g g := ⟨fun _ _ _ h => h, fun _ _ h => h⟩
  have hk : Kept g w g w' fun o => o ≠ .ob id := fun k hk => ⟨rfl, hw k (fun e => hk (by rw [e, ho])), fun _ => rfl⟩
  refine ⟨⟨hg, fun k hk => ⟨hk, hw k (fun e => by rw [e, ho] at hk; cases hk), fun _ => rfl⟩, by rw [hs]; exact Nat.le_refl _, hos.1, hos.2⟩, ?_⟩
  refine ⟨h.sorted, h.size, h.defers, fun t e he => (h.env t e he).kept hg hk (by simp) (by simp) (by simp), fun id' ob hob => ?_, fun k off v hv => ?_, fun k hk => by rw [hs]; exact h.own k hk, h.glob, h.rho⟩
  · by_cases e : id' = id
    · subst e; rw [hid] at hob; simp at hob; subst hob; trivial
    · exact (h.heap id' ob hob).beside hg hk e hb hm (by simp) (by simp)
  · have hv' := h.gam k off v hv
    have hkb : k ≠ b := by rintro rfl; rw [hγ] at hv; cases hv
    unfold World.cell? at hv' ⊢
    rw [hw k hkb]; exact hv'
theorem sim_ustr {d e : Nat} {x n : Opd} (h : Rel P gl N g s a w) (hc : chkUstr P N o d e x n = true) (he : ev gl s (.ustr d e x n) = some s') : Sim1 P gl N o g a w s' := by
  simp only [chkUstr, Bool.and_eq_true] at hc
  obtain ⟨hd, hop⟩ := hc
  split at hop
  · rename_i x' n' pt it ho
    obtain ⟨cst, hrun⟩ := bcall_run (o := o) ho rfl a.eval
    simp only [Bool.and_eq_true, beq_iff_eq] at hop
    obtain ⟨⟨⟨hx, hn⟩, hce⟩, hpt⟩ := hop
    split at hpt
    · rename_i e' hp
      simp at hpt; subst hpt
      simp only [ev] at he
      split at he
      · rename_i id m e1 e2
        split at he
        · rename_i e0 cs hid
          split at he
          · rename_i hb
            obtain ⟨rfl, h0, h1, h2⟩ := hb
            obtain ⟨l, hl, he⟩ := bind_some he
            obtain ⟨b, hb1, hb2⟩ := (evO_sound h hx e1).ptr_inv
            have hm := (evO_sound h hn e2).int_inv
            obtain ⟨b', k, p1, p1', p2, ⟨arr, p3, p4⟩, p5⟩ := h.heap _ _ hid
            rw [hb1] at p1; simp at p1; subst p1
            obtain ⟨ws, c1, c2, c3, c4⟩ := p2.cells (off := 0) (n := m.toNat)
            simp only [List.drop_zero] at c1 c2
            have hws := bytesOf_spec hl c2
            have hlen : l.length = m.toNat := by
              have := c2.get.1
              rw [hws] at this; simp at this; omega
            have hml : (m : Int) = l.length := by omega
            obtain ⟨arr', ty', z1, z2, z3, z4, _⟩ := p2
            rw [p3] at z1; simp at z1; obtain ⟨rfl, rfl⟩ := z1
            have hcell : ∀ j y, l[j]? = some y → w.cell? ((⟨b, 0, none⟩ : Addr).add j) = some (.int .u8 y.toNat) := fun j y hy => by
              rw [addr_add, Nat.zero_add]
              have := c4 j (.int .u8 y.toNat) (by rw [hws]; simp [hy])
              simpa using this
            have hr := Lib.run_unsafeString_row (P := P) w pt it o.type e0 hp hce b arr.size (by simp [World.shape?, p3]) l (by intro e; subst e; simp at hlen; omega) (by omega) (by unfold M at h2; omega) hcell
            have hn0 : l.length ≠ 0 := by omega
            have hdead := h.dead id
            have hidlt : id < s.heap.length := (List.getElem?_eq_some_iff.1 hid).1
            obtain ⟨t1, t2⟩ := hdead.touch (w' := w.freeze ⟨b, 0, none⟩ l.length) (id := id) (b := b) (by simp [hidlt]) hb1 z3 z4 (by simp [p3]) (freeze_size w) (fun k hk => freeze_heap hn0 w k hk) (by unfold World.freeze; split <;> exact ⟨rfl, rfl⟩)
            simp only [dstIs, Bool.and_eq_true, beq_iff_eq, decide_eq_true_eq] at hd
            refine ⟨.string ⟨l.toArray⟩, _, g, .inl ?_, t1, ?_⟩
            · rw [hrun]
              simp only [builtin, List.map_cons, List.map_nil, hb2, hm, hml, ptrTo, Sem.run_bind, hr, Result.andThen_ok, Sem.run_pure]
            · rw [hd.1]
              exact t2.put he hd.2 (.pure _ _ (.str _ (by omega))) (notOwn_str _).ownR
          · cases he
        · cases he
      · rename_i m e1 e2
        split at he
        · rename_i h0
          subst h0
          have q := (evO_sound h hx e1).nilp_inv
          have hm := (evO_sound h hn e2).int_inv
          refine .value h hd he ?_ (.pure _ _ (.str [] (by simp))) (notOwn_str _)
          rw [hrun]
          simp only [builtin, List.map_cons, List.map_nil, q, hm, Sem.run_bind, Lib.run_unsafeString_none w pt it, Result.andThen_ok, Sem.run_pure]
          rfl
        · cases he
      · cases he
    · cases hpt
  · cases hop

theorem find_noescape {fn : Func} (h : fn.name = "internal/abi.NoEscape") : Extern.find fn = some Extern.AbiNoEscape.same ∧ ((Extern.allNextRows.lookup fn.name).map (· fn.params fn.resultTypes)) = none := by
  have h1 : Extern.allGenericRows.lookup "internal/abi.NoEscape" = none := by kernel_rfl
  have h2 : Extern.allTypedRows.lookup "internal/abi.NoEscape" = none := by kernel_rfl
  have h3 : Extern.allRows.lookup "internal/abi.NoEscape" = some Extern.AbiNoEscape.same := by kernel_rfl
  have h4 : Extern.allNextRows.lookup "internal/abi.NoEscape" = none := by kernel_rfl
  refine ⟨?_, by rw [h, h4]; rfl⟩
  simp only [Extern.find, h, h1, h2, h3]; rfl
theorem find_cmps {fn : Func} (h : fn.name = "internal/bytealg.abigen_runtime_cmpstring") : Extern.find fn = some Extern.BytealgCompare.compare ∧ ((Extern.allNextRows.lookup fn.name).map (· fn.params fn.resultTypes)) = none := by
  have h1 : Extern.allGenericRows.lookup "internal/bytealg.abigen_runtime_cmpstring" = none := by kernel_rfl
  have h2 : Extern.allTypedRows.lookup "internal/bytealg.abigen_runtime_cmpstring" = none := by kernel_rfl
  have h3 : Extern.allRows.lookup "internal/bytealg.abigen_runtime_cmpstring" = some Extern.BytealgCompare.compare := by kernel_rfl
  have h4 : Extern.allNextRows.lookup "internal/bytealg.abigen_runtime_cmpstring" = none := by kernel_rfl
  refine ⟨?_, by rw [h, h4]; rfl⟩
  simp only [Extern.find, h, h1, h2, h3]; rfl
/-- A function without a body, of a given name. -/
def externIs (P : Program) (f : Nat) (nm : String) : Bool := match P.funcs[f]? with
  | some fn => fn.name == nm && fn.body.isNone && (Extern.allNextRows.lookup fn.origin).isNone
  | none => false
theorem run_extern {f : Nat} {nm : String} {args : Array Value} {e : Array Value → Sem Value} (h : externIs P f nm = true) (hn : (nm == "runtime.NumGoroutine") = false)
    (hf : ∀ fn : Func, fn.name = nm → Extern.find fn = some e ∧ ((Extern.allNextRows.lookup fn.name).map (· fn.params fn.resultTypes)) = none) {v : Value} (hv : (e args).run P w = .ok v w) :
    (callFunc f args).run P w = .ok (.value v) w := by
  unfold externIs at h
  split at h
  · rename_i fn h1
    simp only [Bool.and_eq_true, beq_iff_eq, Option.isNone_iff_eq_none] at h
    obtain ⟨⟨h2, h3⟩, h4⟩ := h
    obtain ⟨q1, q2⟩ := hf fn h2
    have hnext : Extern.findNext fn = none := by
      simp only [Extern.findNext, q2, h4]; rfl
    simp only [callFunc, Sem.run_bind, run_program, Result.andThen_ok, h1, h2, hn, Bool.false_eq_true, if_false]
    simp only [h3, Option.isNone_none, if_true, Sem.run_bind, run_mark, Result.andThen_ok, hnext, q1, hv, Sem.run_pure]
  · cases h
def chkExt1 (P : Program) (N : Nat) (o : Oper) (d f : Nat) (nm : String) (xs : List Opd) : Bool := dstIs N o d && externIs P f nm &&
  (match o.op with | .call c => (match c.callee with | .value (.func f') => f' == f && chkOpds c.args.toList xs | _ => false) | _ => false)
theorem run_ext1 {d f : Nat} {nm : String} {xs : List Opd} {e : Array Value → Sem Value} (hc : chkExt1 P N o d f nm xs = true) (hn : (nm == "runtime.NumGoroutine") = false)
    (hf : ∀ fn : Func, fn.name = nm → Extern.find fn = some e ∧ ((Extern.allNextRows.lookup fn.name).map (· fn.params fn.resultTypes)) = none) :
    dstIs N o d = true ∧ ∃ ys : List Operand, chkOpds ys xs = true ∧ ∀ v, (e (ys.map a.eval).toArray).run P w = .ok v w → (execOp a.eval o).run P w = .ok (.value v) w := by
  simp only [chkExt1, Bool.and_eq_true] at hc
  obtain ⟨⟨hd, hx⟩, hop⟩ := hc
  refine ⟨hd, ?_⟩
  split at hop
  · rename_i c ho
    split at hop
    · rename_i f' hcl
      simp only [Bool.and_eq_true, beq_iff_eq] at hop
      obtain ⟨rfl, hxs⟩ := hop
      refine ⟨c.args.toList, hxs, fun v hv => ?_⟩
      have e' : (List.map a.eval c.args.toList).toArray = c.args.map a.eval := by apply Array.ext'; simp
      simp only [execOp, ho, resolve, hcl, Act.eval, Deferred.ofValue, Sem.run_bind, Sem.run_pure, Result.andThen_ok, invoke]
      refine run_extern (v := v) hx hn hf ?_
      rw [← e'] 
      simpa using hv
    · cases hop
  · cases hop
theorem sim_noesc {d f : Nat} {x : Opd} (h : Rel P gl N g s a w) (hc : chkExt1 P N o d f "internal/abi.NoEscape" [x] = true) (he : ev gl s (.noesc d f x) = some s') : Sim1 P gl N o g a w s' := by
  obtain ⟨hd, ys, hys, hr⟩ := run_ext1 (P := P) (a := a) (w := w) hc (by decide) (fun fn h => find_noescape h)
  obtain ⟨u, h1, h2⟩ := bind_some he
  match ys, hys with
  | [y], hys =>
    have hy : chkOpd y x = true := by simpa [chkOpds] using hys
    exact .value h hd h2 (hr (a.eval y) rfl) (evO_sound h hy h1).noOwn (NotOwn.noOwn u)
  | [], hys => simp [chkOpds] at hys
  | _ :: _ :: _, hys => simp [chkOpds] at hys
theorem cmp_eq : ∀ (x y : List UInt8), Extern.BytealgCompare.cmp ⟨x.toArray⟩ ⟨y.toArray⟩ = cmpB x y := by
  have gen : ∀ (x y : List UInt8) (p q : List UInt8), p.length = q.length → 
      (match ((List.range (min x.length y.length)).find? fun i => (p ++ x)[p.length + i]! != (q ++ y)[q.length + i]!) with
        | some i => if (p ++ x)[p.length + i]! < (q ++ y)[q.length + i]! then (-1 : Int) else 1
        | none => if x.length < y.length then -1 else if x.length > y.length then 1 else 0) = cmpB x y := by
    intro x
    induction x with
    | nil =>
      intro y p q _
      cases y <;> simp [cmpB]
    | cons c x ih =>
      intro y p q hpq
      cases y with
      | nil => simp [cmpB]
      | cons d y =>
        have hmin : min (c :: x).length (d :: y).length = min x.length y.length + 1 := by simp
        rw [hmin, List.range_succ_eq_map, List.find?_cons]
        have e1 : (p ++ c :: x)[p.length + 0]! = c := by simp
        have e2 : (q ++ d :: y)[q.length + 0]! = d := by simp
        rw [e1, e2]
        by_cases hcd : c = d
        · subst hcd
          simp only [bne_self_eq_false, List.find?_map]
          have := ih y (p ++ [c]) (q ++ [c]) (by simp [hpq])
          simp only [List.append_assoc, List.singleton_append, List.length_append, List.length_cons, List.length_nil, Nat.zero_add] at this
          simp only [cmpB, if_true]
          rw [← this]
          have hf : ((fun i => (p ++ c :: x)[p.length + i]! != (q ++ c :: y)[q.length + i]!) ∘ Nat.succ) = fun i => (p ++ c :: x)[p.length + 1 + i]! != (q ++ c :: y)[q.length + 1 + i]! := by
            funext i
            simp only [Function.comp]
            rw [show p.length + i.succ = p.length + 1 + i by omega, show q.length + i.succ = q.length + 1 + i by omega]
          rw [hf]
          cases hfd : (List.range (min x.length y.length)).find? (fun i => (p ++ c :: x)[p.length + 1 + i]! != (q ++ c :: y)[q.length + 1 + i]!) with
          | none => simp
          | some i =>
            simp only [Option.map_some]
            rw [show p.length + i.succ = p.length + 1 + i by omega, show q.length + i.succ = q.length + 1 + i by omega]
        · have : (c != d) = true := by simp [hcd]
          simp only [this, cmpB, hcd, if_false]
          simp only [e1, e2]
  intro x y
  have := gen x y [] [] rfl
  simp only [List.nil_append, List.length_nil, Nat.zero_add] at this
  rw [← this]
  have h1 : ∀ (l : List UInt8) (i : Nat), (ByteArray.mk l.toArray)[i]! = l[i]! := by
    intro l i
    by_cases h : i < l.length
    · rw [getElem!_pos _ _ (by simpa [ByteArray.size] using h), getElem!_pos l i h]; rfl
    · rw [getElem!_neg _ _ (by simpa [ByteArray.size] using h), getElem!_neg l i h]
  simp only [Extern.BytealgCompare.cmp, ByteArray.size, List.size_toArray, h1]
  rfl
theorem sim_cmps {d f : Nat} {x y : Opd} (h : Rel P gl N g s a w) (hc : chkExt1 P N o d f "internal/bytealg.abigen_runtime_cmpstring" [x, y] = true) (he : ev gl s (.cmps d f x y) = some s') : Sim1 P gl N o g a w s' := by
  obtain ⟨hd, ys, hys, hr⟩ := run_ext1 (P := P) (a := a) (w := w) hc (by decide) (fun fn h => find_cmps h)
  simp only [ev] at he
  split at he
  · rename_i l m e1 e2
    match ys, hys with
    | [y1, y2], hys =>
      simp only [chkOpds, List.length_cons, List.length_nil, List.zip_cons_cons, List.zip_nil_right, List.all_cons, List.all_nil, Bool.and_true, Bool.and_eq_true, beq_self_eq_true, true_and] at hys
      obtain ⟨q1, _⟩ := (evO_sound h hys.1 e1).str_inv
      obtain ⟨q2, _⟩ := (evO_sound h hys.2 e2).str_inv
      refine .value h hd he (hr (.int .i64 (cmpB l m)) ?_) (.pure _ _ (.int _ _)) (notOwn_int _ _)
      have e0 : Extern.BytealgCompare.compare #[.string ⟨l.toArray⟩, .string ⟨m.toArray⟩] = (do pure (goInt (Extern.BytealgCompare.cmp (← Extern.Bytes.bytesOf (.string ⟨l.toArray⟩)) (← Extern.Bytes.bytesOf (.string ⟨m.toArray⟩))))) := rfl
      simp only [List.map_cons, List.map_nil, q1, q2, e0, Extern.Bytes.bytesOf, Sem.run_bind, Sem.run_pure, Result.andThen_ok, cmp_eq, goInt]
    | [], hys => simp [chkOpds] at hys
    | [_], hys => simp [chkOpds] at hys
    | _ :: _ :: _ :: _, hys => simp [chkOpds] at hys
  · cases he
end
end AM
/-! The simulation of appends to heap slices. -/
namespace AM
open Go
section
variable {P : Program} {gl : Glob} {N : Nat} {g g' : Gh} {s s' : St} {a : Act} {w w' : World} {o : Oper}

/-- An append of a string's bytes that has something to append: where the result lies. -/
theorem run_appS {t u ty e : TypeId} {i : TypeInfo} {z : Value} (ht : P.underlying t = some (.slice e)) (hu : P.underlying u = some .string) (hi : P.info? e = some i) (hz : i.zero = some z) (hzs : z.cells.size = i.size) (hs1 : i.size = 1)
    {v : Value} {n : Nat} {xs : List Value} (hown : w.ownsRow 0 e i.size v n xs) (s : ByteArray) (hm : 0 < s.size) (h63 : n + s.size ≤ M) (hb : i.bytes ≤ 128) :
    ∃ v' w', (Builtin.append_ #[t, u] ty #[v, .string s]).run P w = .ok v' w' ∧ w'.ownsRow 0 e i.size v' (n + s.size) (xs ++ Lib.strCells s) ∧ w.heap.size ≤ w'.heap.size ∧
      ((v'.ownBlock = v.ownBlock ∧ v.ownBlock ≠ none ∧ ∀ k, some k ≠ v.ownBlock → w'.heap[k]? = w.heap[k]?) ∨ (v'.ownBlock = some w.heap.size ∧ w.heap.size < w'.heap.size ∧ ∀ k, k < w.heap.size → w'.heap[k]? = w.heap[k]?)) ∧ ((w'.os, w'.tape) = (w.os, w.tape) ∧ w'.output = w.output) := by
  unfold M at h63
  have hbytes : (n + s.size) * i.bytes ≤ 140737488355328 := by
    calc (n + s.size) * i.bytes ≤ 1099511627776 * 128 := Nat.mul_le_mul (by omega) hb
      _ = 140737488355328 := by decide
  have hmax : n + s.size ≤ maxLen := by unfold maxLen; omega
  have hl : (Lib.strCells s).length = s.size * i.size := by rw [Lib.strCells_length, hs1, Nat.mul_one]
  have hlen : (xs ++ Lib.strCells s).length = (n + s.size) * i.size := by rw [List.length_append, hown.1, hl, Nat.add_mul]
  have grown : ∀ (old : Nat), old < n + s.size →
      (w.drew.alloc (.cells (xs.toArray ++ (Lib.strCells s).toArray ++ Builtin.zeroCells z.cells (grownCap w (n + s.size) old e - (n + s.size))) e)).ownsRow 0 e i.size
        (.slice (some ⟨w.heap.size, 0, none⟩) (n + s.size) (grownCap w (n + s.size) old e)) (n + s.size) (xs ++ Lib.strCells s) := by
    intro old ho
    have hge := grownCap_ge w (n + s.size) old e
    have hcm : grownCap w (n + s.size) old e ≤ maxLen := grownCap_le_maxLen w (n + s.size) old e hmax
    refine ⟨hlen, .inr ⟨w.heap.size, _, _, rfl, Nat.zero_le _, heap_alloc_new w.drew _, hge, hcm, ?_, ?_⟩⟩
    · simp only [Array.size_append, List.size_toArray, size_zeroCells, hzs, hown.1, hl, ← Nat.add_mul]
      congr 1; omega
    · simp only [Array.toList_append, List.append_assoc]
      rw [← List.append_assoc, ← hlen]
      exact List.take_left
  rcases hown.2 with ⟨rfl, rfl⟩ | ⟨g, cap, cur, rfl, hbg, hg, hnc, hcm, hcs, htake⟩
  · have hx : xs = [] := List.eq_nil_of_length_eq_zero (by simpa using hown.1)
    subst hx
    have hr := run_append_nil_string (P := P) w t u ty e i z ht hu hi hz s hm (by omega) (by simp only [Nat.zero_add] at hbytes; omega)
    have hgr := grown 0 (by omega)
    simp only [Nat.zero_add, List.nil_append, Array.empty_append] at hgr ⊢
    have e1 : (s.data.map fun b => Value.int .u8 b.toNat) = (Lib.strCells s).toArray := by
      apply Array.ext'
      simp [Lib.strCells]
    rw [e1] at hr
    exact ⟨_, _, hr, hgr, by rw [alloc_size]; show w.heap.size ≤ w.heap.size + 1; omega, .inr ⟨rfl, by rw [alloc_size]; show w.heap.size < w.heap.size + 1; omega, fun k hk => heap_alloc_old w.drew _ hk⟩, rfl, rfl⟩
  · by_cases hroom : n + s.size ≤ cap
    · have hfit : n + s.size ≤ cur.size := by rw [hcs, hs1, Nat.mul_one]; exact hroom
      have hr := Lib.run_append_room_string (P := P) w t u ty e i ht hu hi hs1 g n cap cur hg s hroom hfit
      refine ⟨_, _, hr, ⟨hlen, .inr ⟨g, cap, _, rfl, Nat.zero_le _, setRow_heap w g cur _ e _ hg, hroom, hcm, ?_, ?_⟩⟩, by simp, .inl ⟨rfl, by simp [Value.ownBlock], fun k hk => setRow_other w g k _ (fun e => hk (by simp [Value.ownBlock, e]))⟩, rfl, rfl⟩
      · simp only [List.size_toArray, List.length_append, List.length_take, List.length_drop, Array.length_toList, Lib.strCells_length]
        omega
      · have htake' : cur.toList.take n = xs := by rw [hs1, Nat.mul_one] at htake; exact htake
        rw [htake', ← hlen]
        exact List.take_left
    · have holds : ∀ j u, xs[j]? = some u → w.cell? ((⟨g, 0, none⟩ : Addr).add j) = some u := hown.cells (g := g) rfl
      have hr := Lib.run_append_grow_string (P := P) w t u ty e i z ht hu hi hz ⟨g, 0, none⟩ n cap xs hown.1 holds s (by omega) (by omega) (growslice_fits (by omega) hbytes)
      exact ⟨_, _, hr, grown cap (by omega), by rw [alloc_size]; show w.heap.size ≤ w.heap.size + 1; omega, .inr ⟨rfl, by rw [alloc_size]; show w.heap.size < w.heap.size + 1; omega, fun k hk => heap_alloc_old w.drew _ hk⟩, rfl, rfl⟩

/-- A block becomes a new heap slice. -/
theorem Rel.rebuf (h : Rel P gl N g s a w) {nb e sz c : Nat} {cs : List AV} {us : List Value} {cur : Array Value}
    (hnb : g.Ω nb = .none ∨ ∃ id, g.Ω nb = .ob id ∧ s.heap[id]? = some .dead ∧ g.ρ id = some nb ∧ ∀ arr n, w.heap[nb]? ≠ some (.map arr n))
    (hγ : ∀ off, g.γ nb off = none) (hw : ∀ k, k ≠ nb → k < w.heap.size → w'.heap[k]? = w.heap[k]?) (hsz : w.heap.size ≤ w'.heap.size) (hos : (w'.os, w'.tape) = (w.os, w.tape) ∧ w'.output = w.output)
    (hblk : w'.heap[nb]? = some (.cells cur e (0, 0))) (hcur : cur.size = c * sz) (htake : ∀ (j : Nat) u, us[j]? = some u → cur[j]? = some u) (hv : VRs g cs us) (h1 : ∀ u ∈ us, u.oneCell' = true) (hn : ∀ x ∈ cs, NotOwn x) (hok : okElem P e sz = true) (hc : c ≤ maxLen) :
    ∃ g', GLe g w g' w' ∧ Rel P gl N g' { s with heap := s.heap ++ [AObj.buf e cs, .dead] } a w' ∧ g'.ρ s.heap.length = some nb ∧ g'.ρ (s.heap.length + 1) = some (c * sz) := by
  have hlt : nb < w'.heap.size := (Array.getElem?_eq_some_iff.1 hblk).1
  let g2 : Gh := { g with Ω := fun k => if k = nb then .ob s.heap.length else g.Ω k, ρ := fun id => if id = s.heap.length then some nb else if id = s.heap.length + 1 then some (c * sz) else g.ρ id }
  have hle : GhLe g g2 := ⟨fun _ _ _ h => h, fun id b hid => by
    have := h.rho id b hid
    simp [g2, show id ≠ s.heap.length by omega, show id ≠ s.heap.length + 1 by omega]; exact hid⟩
  have hsame : ∀ k, k ≠ nb → g.Ω k ≠ .none → g2.Ω k = g.Ω k ∧ w'.heap[k]? = w.heap[k]? ∧ ∀ o, g2.γ k o = g.γ k o := fun k hk hk2 =>
    ⟨by simp [g2, hk], hw k hk (h.own k hk2), fun _ => rfl⟩
  have hout : g.Ω nb ≠ .outer := by rcases hnb with h | ⟨id, h, _⟩ <;> rw [h] <;> simp
  have hkB : Kept g w g2 w' fun o => o ≠ .none ∧ ∀ id, o = .ob id → s.heap[id]? ≠ some .dead := fun k hk => by
    refine hsame k ?_ hk.1
    rintro rfl
    rcases hnb with h | ⟨id, h, h2, _⟩
    · exact hk.1 h
    · exact hk.2 id h h2
  refine ⟨g2, ⟨hle, fun k hk => ?_, hsz, hos.1, hos.2⟩, ?_, by simp [g2], by simp [g2]⟩
  · obtain ⟨q1, q2, q3⟩ := hsame k (fun e => hout (e ▸ hk)) (by rw [hk]; simp)
    exact ⟨q1.trans hk, q2, q3⟩
  · refine ⟨h.sorted, h.size, h.defers, fun t e he => (h.env t e he).kept hle hkB (by simp) (by simp) (by simp), fun id ob hob => ?_, fun k off v hv => ?_, fun k hk => ?_, h.glob, fun id b hid => ?_⟩
    · simp only at hob
      by_cases hidlt : id < s.heap.length
      · rw [List.getElem?_append_left hidlt] at hob
        have hR := h.heap id ob hob
        rcases hnb with hn0 | ⟨id0, q1, q2, q3, q4⟩
        · have hk : Kept g w g2 w' fun o => o ≠ .none := fun k hk => hsame k (by rintro rfl; exact hk hn0) hk
          exact hR.kept hle hk (by simp) (by simp)
        · by_cases e0 : id = id0
          · subst e0; rw [q2] at hob; simp at hob; subst hob; trivial
          · have hk : Kept g w g2 w' fun o => o ≠ .none ∧ o ≠ .ob id0 := fun k hk => hsame k (by rintro rfl; exact hk.2 q1) hk.1
            exact hR.beside hle hk e0 q3 q4 (fun i hi => by simp [hi]) (by simp)
      · rw [List.getElem?_append_right (by omega)] at hob
        by_cases e0 : id = s.heap.length
        · subst e0
          simp at hob; subst hob
          obtain ⟨i, z, r1, r2, r3, r4, r5, r6⟩ := okElem_spec hok
          refine ⟨nb, c * sz, by simp [g2], by simp [g2], ⟨cur, e, hblk, ?_, by simp [g2], hγ, fun j x hx => ?_⟩, ⟨cur, hblk, hcur⟩, i, z, r1, by omega, r4, by omega, r6, by rw [r2]; exact Nat.mul_le_mul_right _ hc⟩
          · have hl := hv.get.1
            rcases Nat.eq_zero_or_pos us.length with hz | hz
            · omega
            · have h9 := htake (us.length - 1) us[us.length - 1] (by simp [show us.length - 1 < us.length by omega])
              have := (Array.getElem?_eq_some_iff.1 h9).1
              omega
          · obtain ⟨v, p1, p2⟩ := hv.get.2 j x hx
            exact ⟨v, htake j v p1, h1 v (List.mem_of_getElem? p1), p2.mono hle, (hn x (List.mem_of_getElem? hx)).ownR⟩
        · obtain ⟨k, hk⟩ : ∃ k, id - s.heap.length = k + 1 := ⟨id - s.heap.length - 1, by omega⟩
          rw [hk] at hob
          cases k with
          | zero => simp at hob; subst hob; trivial
          | succ k => simp at hob
    · have hv' := h.gam k off v hv
      have hkb : k ≠ nb := by rintro rfl; have : g.γ k off = some v := hv; rw [hγ] at this; cases this
      have hkl := cell_lt hv'
      unfold World.cell? at hv' ⊢
      rw [hw k hkb hkl]; exact hv'
    · by_cases e0 : k = nb
      · subst e0; exact hlt
      · have : g.Ω k ≠ .none := by simpa [g2, e0] using hk
        have := h.own k this; omega
    · simp only [List.length_append, List.length_cons, List.length_nil]
      by_cases e0 : id = s.heap.length
      · omega
      · by_cases e1 : id = s.heap.length + 1
        · omega
        · simp [g2, e0, e1] at hid; have := h.rho id b hid; omega

def chkApph (P : Program) (N : Nat) (o : Oper) (d e sz : Nat) (sb : Bool) (u x : Opd) : Bool := dstIs N o d &&
  (match bcall o.op with
   | some (.append, [u', x'], [t, t']) => chkOpd u' u && chkOpd x' x && elemOk P t e sz && (if sb = true then strOk P t' && sz == 1 else t == t')
   | _ => false)
theorem PRs.vrs : ∀ {ws : List Value} {cs : List AV}, PRs g.γ cs ws → VRs g cs ws
  | [], _, h => by cases h; exact .nil
  | _ :: _, _, .cons _ _ _ _ _ h2 h3 => .cons _ _ _ _ (.pure _ _ h2) (PRs.vrs h3)
/-- What is appended: its cells. -/
theorem src_cells (h : Rel P gl N g s a w) {sb : Bool} {y : AV} {sz : Nat} {ys : List AV} {v : Value} (hv : VR g y v) (hl : y.lstB sb = some (sz, ys)) :
    ∃ news : List Value, news.length = ys.length * sz ∧ VRs g (ys.map fun v : AV => v.cells.map AV.noOwn).flatten news ∧ (∀ u ∈ news, u.oneCell' = true) ∧
      ((sb = false ∧ ∃ base cap, v = .slice base ys.length cap ∧ (ys = [] ∨ ∃ b off, base = some ⟨b, off, none⟩ ∧ ∀ j u, news[j]? = some u → w.cell? ((⟨b, off, none⟩ : Addr).add j) = some u)) ∨
       (sb = true ∧ ∃ l : List UInt8, v = .string ⟨l.toArray⟩ ∧ sz = 1 ∧ ys.length = l.length ∧ news = Lib.strCells ⟨l.toArray⟩)) := by
  cases sb with
  | true =>
    cases y <;> simp [AV.lstB] at hl
    rename_i l
    obtain ⟨rfl, hlM⟩ := hv.str_inv
    obtain ⟨rfl, rfl⟩ := hl
    refine ⟨Lib.strCells ⟨l.toArray⟩, by rw [Lib.strCells_length]; simp [ByteArray.size], ?_, Lib.strCells_oneCell _, .inr ⟨rfl, l, rfl, rfl, by simp, rfl⟩⟩
    simp only [Lib.strCells]
    clear hv hlM
    induction l with
    | nil => exact .nil
    | cons c l ih => exact .cons _ _ _ _ (.pure _ _ (.int _ _)) ih
  | false =>
    have hl' : y.lst = some (sz, ys) := by cases y <;> exact hl
    obtain ⟨base, cap, q1, q2, q3⟩ := VR.lst_inv hv hl'
    rcases q3 with rfl | ⟨b, off, rfl, q4⟩
    · exact ⟨[], by simp, .nil, by simp, .inl ⟨rfl, base, cap, q1, .inl rfl⟩⟩
    · obtain ⟨rows, m1, m2, m3, m4, m5⟩ := q4.vals
      refine ⟨rows.flatten, m4, ?_, fun u hu => ?_, .inl ⟨rfl, _, cap, q1, .inr ⟨b, off, rfl, fun j u hj => by rw [addr_add]; exact h.gam _ _ _ (m5 j u hj)⟩⟩⟩
      · clear q4 m5 m4 hl hl' hv q1 q2 m3
        induction ys generalizing rows with
        | nil => cases rows with | nil => exact .nil | cons => simp at m1
        | cons y ys ih =>
          cases rows with
          | nil => simp at m1
          | cons r rows =>
            obtain ⟨c1, c2, c3⟩ := m2 0 y r (by simp) (by simp)
            simp only [List.map_cons, List.flatten_cons]
            refine VRs.append (VRs.noOwn ?_) (ih rows (by simpa using m1) fun k x r hx hr => m2 (k + 1) x r (by simpa using hx) (by simpa using hr))
            exact c2.vrs
      · obtain ⟨r, hr, hu'⟩ := List.mem_flatten.1 hu
        exact m3 r hr u hu'
theorem run_app_none {t u ty e : TypeId} {i : TypeInfo} {x : Value} {n c : Nat} {base : Option Addr} (ht : P.underlying t = some (.slice e)) (hu : (∃ e', P.underlying u = some (.slice e')) ∨ P.underlying u = some .string) (hi : P.info? e = some i)
    (hx : (∃ b k, x = .slice b 0 k) ∨ x = .string ⟨#[]⟩) (hn : n ≤ c) (hb : base = none → n = 0 ∧ c = 0) :
    (Builtin.append_ #[t, u] ty #[.slice base n c, x]).run P w = .ok (.slice base n c) w := by
  rcases hu with ⟨e', hu⟩ | hu <;> rcases hx with ⟨b, k, rfl⟩ | rfl <;> cases base <;>
    first
    | (cases b <;> simp [Builtin.append_, run_underlying ht, run_underlying hu, Go.sizeOf, typeInfo, hi, Builtin.lenOf, hn, Builtin.firstCells, loadCells, loadCellsFrom, storeCells]; done)
    | (simp [Builtin.append_, run_underlying ht, run_underlying hu, Go.sizeOf, typeInfo, hi, Builtin.lenOf, hn, Builtin.firstCells, loadCells, storeCells, ByteArray.size]; done)
theorem sim_apph {d e sz : Nat} {sb : Bool} {u x : Opd} (h : Rel P gl N g s a w) (hc : chkApph P N o d e sz sb u x = true) (he : ev gl s (.apph d e sz sb u x) = some s') : Sim1 P gl N o g a w s' := by
  simp only [chkApph, Bool.and_eq_true] at hc
  obtain ⟨hd, hop⟩ := hc
  split at hop
  · rename_i u' x' t t' ho
    obtain ⟨cst, hrun⟩ := bcall_run (o := o) ho rfl a.eval
    simp only [Bool.and_eq_true] at hop
    obtain ⟨⟨⟨hu, hx⟩, hk⟩, htt⟩ := hop
    · obtain ⟨hut, hok⟩ := elemOk_spec hk
      obtain ⟨i, z, hi, r2, r3, r4, r5, r6⟩ := okElem_spec hok
      subst r2
      have hd' := hd
      simp only [dstIs, Bool.and_eq_true, beq_iff_eq, decide_eq_true_eq] at hd'
      have htt' : (sb = true → P.underlying t' = some .string ∧ i.size = 1) ∧ (sb = false → t = t') := by
        cases sb with
        | true => simp at htt; exact ⟨fun _ => ⟨strOk_spec htt.1, htt.2⟩, (fun h => by cases h)⟩
        | false => simp at htt; exact ⟨(fun h => by cases h), fun _ => htt⟩
      -- the run of the append, whatever is appended
      have happ : ∀ {v : Value} {n : Nat} {xs : List Value} {ys : List AV} {news : List Value}, w.ownsRow 0 e i.size v n xs → 0 < ys.length → n + ys.length ≤ M → news.length = ys.length * i.size →
          (∀ q ∈ news, q.oneCell' = true) →
          ((sb = false ∧ ∃ base cap, a.eval x' = .slice base ys.length cap ∧ (ys = [] ∨ ∃ b off, base = some ⟨b, off, none⟩ ∧ ∀ j u, news[j]? = some u → w.cell? ((⟨b, off, none⟩ : Addr).add j) = some u)) ∨
            (sb = true ∧ ∃ l : List UInt8, a.eval x' = .string ⟨l.toArray⟩ ∧ i.size = 1 ∧ ys.length = l.length ∧ news = Lib.strCells ⟨l.toArray⟩)) →
          ∃ v' w', (Builtin.append_ #[t, t'] o.type #[v, a.eval x']).run P w = .ok v' w' ∧ w'.ownsRow 0 e i.size v' (n + ys.length) (xs ++ news) ∧ w.heap.size ≤ w'.heap.size ∧
            ((v'.ownBlock = v.ownBlock ∧ v.ownBlock ≠ none ∧ ∀ k, some k ≠ v.ownBlock → w'.heap[k]? = w.heap[k]?) ∨ (v'.ownBlock = some w.heap.size ∧ w.heap.size < w'.heap.size ∧ ∀ k, k < w.heap.size → w'.heap[k]? = w.heap[k]?)) ∧ ((w'.os, w'.tape) = (w.os, w.tape) ∧ w'.output = w.output) := by
        intro v n xs ys news hown hpos hM hnl hone hsrc
        rcases hsrc with ⟨hsb, base, cap, q1, q3⟩ | ⟨hsb, l, q1, q2, q3, q4⟩
        · have := htt'.2 hsb; subst this
          rcases q3 with rfl | ⟨b, off, rfl, q4⟩
          · simp at hpos
          · rw [q1]
            exact run_app (P := P) (w := w) (ty := o.type) (c := cap) hut hi r4 r5 hown hnl q4 hone hpos hM r6
        · obtain ⟨hs, hs1⟩ := htt'.1 hsb
          have hsl : (ByteArray.mk l.toArray).size = ys.length := by rw [q3]; simp [ByteArray.size]
          have := run_appS (P := P) (w := w) (ty := o.type) hut hs hi r4 r5 hs1 hown ⟨l.toArray⟩ (by omega) (by omega) r6
          rw [q1, q4]
          rw [hsl] at this
          exact this
      have hnil : ∀ {base : Option Addr} {n c : Nat} {ys : List AV}, ys = [] → ((sb = false ∧ ∃ base cap, a.eval x' = .slice base ys.length cap) ∨ (sb = true ∧ ∃ l : List UInt8, a.eval x' = .string ⟨l.toArray⟩ ∧ ys.length = l.length)) → n ≤ c → (base = none → n = 0 ∧ c = 0) →
          (Builtin.append_ #[t, t'] o.type #[.slice base n c, a.eval x']).run P w = .ok (.slice base n c) w := by
        intro base n c ys hys hsrc hnc hb
        subst hys
        rcases hsrc with ⟨hsb, b, k, q⟩ | ⟨hsb, l, q, q2⟩
        · have := htt'.2 hsb; subst this
          exact run_app_none hut (.inl ⟨_, hut⟩) hi (.inl ⟨b, k, by simpa using q⟩) hnc hb
        · have : l = [] := List.eq_nil_of_length_eq_zero (by simpa using q2.symm)
          subst this
          exact run_app_none hut (.inr (htt'.1 hsb).1) hi (.inr (by simpa using q)) hnc hb
      simp only [ev] at he
      split at he
      · rename_i sz0 sz' ys e1 e2
        obtain ⟨y, hy, hyl⟩ := bind_some e2
        split at he
        · rename_i hb
          obtain ⟨rfl, rfl, hM⟩ := hb
          have q := (evO_sound h hu e1).nils_inv
          obtain ⟨news, n1, n2, n3, n4⟩ := src_cells h (evO_sound h hx hy) hyl
          split at he
          · -- nothing is appended
            have hr := hnil (base := none) (n := 0) (c := 0) (ys := []) rfl (by
              rcases n4 with ⟨m1, b, k, m2, _⟩ | ⟨m1, l, m2, _, m4, _⟩
              · exact .inl ⟨m1, b, k, m2⟩
              · exact .inr ⟨m1, l, m2, m4⟩) (by omega) (by simp)
            refine .value h hd he ?_ (.pure _ _ (.nils _)) (fun _ _ _ h => by simp at h)
            rw [hrun]
            simp only [builtin, List.map_cons, List.map_nil, q, Sem.run_bind, hr, Result.andThen_ok, Sem.run_pure]
          · rename_i y0 ys0
            generalize hys : y0 :: ys0 = ys at *
            have hpos : 0 < ys.length := by rw [← hys]; simp
            obtain ⟨v', w', k1, k2, k3, k4, k0⟩ := happ (World.ownsRow_nil w 0 e i.size) hpos (by simpa using hM) n1 n3 (by
              rcases n4 with ⟨m1, b, k, m2, m3⟩ | ⟨m1, l, m2, m3, m4, m5⟩
              · exact .inl ⟨m1, b, k, m2, m3⟩
              · exact .inr ⟨m1, l, m2, m3, m4, m5⟩)
            rcases k4 with ⟨_, k5, _⟩ | ⟨k5, k6, k7⟩
            · exact absurd rfl k5
            · rcases k2.2 with ⟨rfl, _⟩ | ⟨nb, cap, cur, rfl, _, c1, c2, c3, c4, c5⟩
              · simp [Value.ownBlock] at k5
              · simp [Value.ownBlock] at k5; subst k5
                obtain ⟨g', t1, t2, t3, t4⟩ := h.rebuf (w' := w') (nb := w.heap.size) (us := news) (c := cap) (.inl h.onone) h.gnone (fun k hk hlt => k7 k hlt) k3 k0 c1 c4 (fun j u hj => by
                  have : (cur.toList.take ((0 + ys.length) * i.size))[j]? = some u := by rw [c5]; simpa using hj
                  rw [List.getElem?_take] at this
                  split at this
                  · simpa using this
                  · cases this) n2 n3 (fun c hc => by
                  obtain ⟨l, hl, hcl⟩ := List.mem_flatten.1 hc
                  obtain ⟨v, _, rfl⟩ := List.mem_map.1 hl
                  exact notOwn_map c hcl) hok c3
                refine ⟨.slice (some ⟨w.heap.size, 0, none⟩) (0 + ys.length) cap, w', g', .inl ?_, t1, ?_⟩
                · rw [hrun]
                  simp only [builtin, List.map_cons, List.map_nil, q, Sem.run_bind, k1, Result.andThen_ok, Sem.run_pure]
                · rw [hd'.1]
                  simp only [Nat.zero_add]
                  exact t2.put he hd'.2 (.sl _ _ _ _ _ _ cap t3 t4 (by simp) (by omega)) (.of_ne fun _ _ _ h => by simp at h)
        · cases he
      · rename_i id n sz0 sz' ys e1 e2
        obtain ⟨y, hy, hyl⟩ := bind_some e2
        split at he
        · rename_i e' cs hid
          split at he
          · rename_i hb
            obtain ⟨rfl, rfl, rfl, hncs, hM⟩ := hb
            obtain ⟨b, k, cap, q1, q2, q3, q4, q5⟩ := (evO_sound h hu e1).sl_inv
            obtain ⟨news, n1, n2, n3, n4⟩ := src_cells h (evO_sound h hx hy) hyl
            obtain ⟨b', k', p1, p1', p2, ⟨arr, p3, p4⟩, i0, z0, p5, p6, p7, p8, p9, p10⟩ := h.heap _ _ hid
            rw [q1] at p1; simp at p1; subst p1
            rw [q2] at p1'; simp at p1'; subst p1'
            have p5' := p5
            rw [hi] at p5'; simp at p5'; subst p5'
            obtain ⟨ws, c1, c2, c3, c4⟩ := p2.cells (off := 0) (n := n * i.size)
            simp only [List.drop_zero] at c1 c2
            obtain ⟨arr', ty', y1, y2, y3, y4, y5⟩ := p2
            rw [p3] at y1; simp at y1; obtain ⟨rfl, rfl⟩ := y1
            rw [Nat.zero_add] at q3
            have hcap : cap ≤ maxLen := by
              have : cap * i.size ≤ maxLen * i.size := by omega
              exact Nat.le_of_mul_le_mul_right this p6
            have hnk : n * i.size ≤ arr.size := by omega
            have hwsl : ws.length = n * i.size := by
              have := c2.get.1; simp at this; omega
            have hws : arr.toList.take (n * i.size) = ws := by
              apply List.ext_getElem?
              intro j
              rw [List.getElem?_take]
              split
              · rename_i hj
                have hj' : j < ws.length := by omega
                have h1 := c4 j ws[j] (by simp [hj'])
                simp only [World.cell?, p3, Nat.zero_add] at h1
                rw [List.getElem?_eq_getElem hj', Array.getElem?_toList]
                simpa using h1
              · rename_i hj
                rw [List.getElem?_eq_none (by omega)]
            have hown : w.ownsRow 0 e' i.size (.slice (some ⟨b, 0, none⟩) n cap) n ws := ⟨hwsl, .inr ⟨b, cap, arr, rfl, Nat.zero_le _, p3, q4, hcap, by omega, hws⟩⟩
            have hidlt : id < s.heap.length := (List.getElem?_eq_some_iff.1 hid).1
            have hdead := h.dead id
            have hnm : ∀ arr' n', w.heap[b]? ≠ some (.map arr' n') := by simp [p3]
            have hcsn : ∀ x ∈ (cs.take (n * i.size)).map AV.noOwn ++ (ys.map fun v : AV => v.cells.map AV.noOwn).flatten, NotOwn x := fun x hx => by
              rcases List.mem_append.1 hx with hx | hx
              · exact notOwn_map x hx
              · obtain ⟨l, hl, hcl⟩ := List.mem_flatten.1 hx
                obtain ⟨v, _, rfl⟩ := List.mem_map.1 hl
                exact notOwn_map x hcl
            have hall : VRs g ((cs.take (n * i.size)).map AV.noOwn ++ (ys.map fun v : AV => v.cells.map AV.noOwn).flatten) (ws ++ news) := c2.noOwn.append n2
            have hone : ∀ u ∈ ws ++ news, u.oneCell' = true := fun u hu => by
              rcases List.mem_append.1 hu with hu | hu
              · exact c3 u hu
              · exact n3 u hu
            have hlen0 : ({ s with heap := s.heap.set id .dead } : St).heap.length = s.heap.length := by simp
            -- where the result lies
            have hres : ∃ nb cap' w' cur, (Builtin.append_ #[t, t'] o.type #[.slice (some ⟨b, 0, none⟩) n cap, a.eval x']).run P w = .ok (.slice (some ⟨nb, 0, none⟩) (n + ys.length) cap') w' ∧ (nb = b ∨ nb = w.heap.size) ∧ w.heap.size ≤ w'.heap.size ∧ ((w'.os, w'.tape) = (w.os, w.tape) ∧ w'.output = w.output) ∧
                (∀ k, k ≠ nb → k < w.heap.size → w'.heap[k]? = w.heap[k]?) ∧ w'.heap[nb]? = some (.cells cur e' (0, 0)) ∧ n + ys.length ≤ cap' ∧ cap' ≤ maxLen ∧ cur.size = cap' * i.size ∧ ∀ (j : Nat) u, (ws ++ news)[j]? = some u → cur[j]? = some u := by
              by_cases hpos : 0 < ys.length
              · obtain ⟨v', w', k1, k2, k3, k4, k0⟩ := happ hown hpos hM n1 n3 (by
                  rcases n4 with ⟨m1, b, k, m2, m3⟩ | ⟨m1, l, m2, m3, m4, m5⟩
                  · exact .inl ⟨m1, b, k, m2, m3⟩
                  · exact .inr ⟨m1, l, m2, m3, m4, m5⟩)
                rcases k2.2 with ⟨rfl, h0⟩ | ⟨nb, cap', cur, rfl, _, d1, d2, d3, d4, d5⟩
                · omega
                · refine ⟨nb, cap', w', cur, k1, ?_, k3, k0, ?_, d1, d2, d3, d4, fun j u hj => ?_⟩
                  · rcases k4 with ⟨m1, _⟩ | ⟨m1, _⟩
                    · left; simpa [Value.ownBlock] using m1
                    · right; simpa [Value.ownBlock] using m1
                  · intro k hk hlt
                    rcases k4 with ⟨m1, _, m3⟩ | ⟨m1, _, m3⟩
                    · exact m3 k (by rw [← m1]; simpa [Value.ownBlock] using hk)
                    · exact m3 k hlt
                  · rw [← d5] at hj
                    rw [List.getElem?_take] at hj
                    split at hj
                    · simpa using hj
                    · cases hj
              · have h0 : ys = [] := List.eq_nil_of_length_eq_zero (by omega)
                have hr := hnil (base := some ⟨b, 0, none⟩) (n := n) (c := cap) h0 (by
                  rcases n4 with ⟨m1, b, k, m2, _⟩ | ⟨m1, l, m2, _, m4, _⟩
                  · exact .inl ⟨m1, b, k, m2⟩
                  · exact .inr ⟨m1, l, m2, m4⟩) q4 (by simp)
                have hnews : news = [] := List.eq_nil_of_length_eq_zero (by rw [n1, h0]; simp)
                refine ⟨b, cap, w, arr, by rw [hr, h0]; rfl, .inl rfl, Nat.le_refl _, ⟨rfl, rfl⟩, fun _ _ _ => rfl, p3, by rw [h0]; exact q4, hcap, by omega, fun j u hj => ?_⟩
                rw [hnews, List.append_nil, ← hws, List.getElem?_take] at hj
                split at hj
                · simpa using hj
                · cases hj
            obtain ⟨nb, cap', w', cur, k1, k2, k3, k0, k4, k5, k6, k7, k8, k9⟩ := hres
            obtain ⟨g', t1, t2, t3, t4⟩ := hdead.rebuf (w' := w') (nb := nb) (sz := i.size) (us := ws ++ news) (c := cap') (by
              rcases k2 with rfl | rfl
              · exact .inr ⟨id, y3, by simp [hidlt], q1, hnm⟩
              · exact .inl h.onone) (by
              rcases k2 with rfl | rfl
              · exact y4
              · exact h.gnone) k4 k3 k0 k5 k8 k9 hall hone hcsn hok k7
            rw [hlen0] at t3 t4
            refine ⟨.slice (some ⟨nb, 0, none⟩) (n + ys.length) cap', w', g', .inl ?_, t1, ?_⟩
            · rw [hrun]
              simp only [builtin, List.map_cons, List.map_nil, q5, Sem.run_bind, k1, Result.andThen_ok, Sem.run_pure]
            · rw [hd'.1]
              exact t2.put he hd'.2 (.sl _ _ _ _ _ _ cap' t3 t4 (by simp) k6) (.of_ne fun _ _ _ h => by simp at h)
          · cases he
        · cases he
      · cases he
  · cases hop
/-- A copy as a heap slice. -/
theorem sim_appd {d u : Nat} {x : Opd} {e sz : Nat} (h : Rel P gl N g s a w) (hc : chkAppc P N o d u x e sz = true) (he : ev gl s (.appd d u x e sz) = some s') : Sim1 P gl N o g a w s' := by
  simp only [chkAppc, chkApp, Bool.and_eq_true] at hc
  obtain ⟨hd, hop⟩ := hc
  split at hop
  · rename_i u' x' t t' ho
    obtain ⟨cst, hrun⟩ := bcall_run (o := o) ho rfl a.eval
    simp only [Bool.and_eq_true, beq_iff_eq] at hop
    obtain ⟨⟨⟨rfl, rfl⟩, hx⟩, hk⟩ := hop
    obtain ⟨hu, hk⟩ := elemOk_spec hk
    have hd' := hd
    simp only [dstIs, Bool.and_eq_true, beq_iff_eq, decide_eq_true_eq] at hd'
    simp only [ev] at he
    split at he
    · rename_i sz' sz'' ys hs hy
      obtain ⟨y, hy, hyl⟩ := bind_some hy
      split at he
      · rename_i hb
        obtain ⟨rfl, rfl, hM⟩ := hb
        obtain ⟨v, p1, p2, _⟩ := h.env _ _ hs
        obtain ⟨bs, rfl⟩ := p2.nilc_inv
        obtain ⟨i, z, r1, r2, r3, r4, r5, r6⟩ := okElem_spec hk
        obtain ⟨news, n1, n2, n3, n4⟩ := src_cells (sb := false) h (evO_sound h hx hy) hyl
        have hev : a.eval (.tmp u') = .slice bs 0 0 := by simp [Act.eval, p1]
        rcases n4 with ⟨_, base, cap, q1, q3⟩ | ⟨h0, _⟩
        · cases ys with
          | nil =>
            have hr := run_appc_zero (P := P) (w := w) (ty := o.type) hu r1 bs base cap
            simp only at he
            refine .value (v := .slice bs 0 0) h hd he ?_ (.pure _ _ (.list0 _ _ _)) (NotOwn.none _ _)
            rw [hrun]
            simp only [builtin, List.map_cons, List.map_nil, hev, q1, List.length_nil, Sem.run_bind, hr, Result.andThen_ok, Sem.run_pure]
          | cons y0 ys0 =>
            simp only at he
            generalize hys : y0 :: ys0 = ys at *
            have hne : ys ≠ [] := by rw [← hys]; simp
            have hpos : 0 < ys.length := List.length_pos_iff.2 hne
            rcases q3 with q3 | ⟨b, off, rfl, q4⟩
            · exact absurd q3 hne
            subst r2
            obtain ⟨v', w', k1, k2, k3, k4, k5, k0⟩ := run_appc (P := P) (w := w) (ty := o.type) (c := cap) hu r1 r4 (by omega) bs n1 q4 hpos hM r6
            rcases k2.2 with ⟨rfl, _⟩ | ⟨nb, cap', cur, rfl, _, c1, c2, c3, c4, c5⟩
            · simp [Value.ownBlock] at k3
            · simp [Value.ownBlock] at k3; subst k3
              obtain ⟨g', t1, t2, t3, t4⟩ := h.rebuf (w' := w') (nb := w.heap.size) (us := news) (c := cap') (.inl h.onone) h.gnone (fun k hk hlt => k5 k hlt) (by omega) k0 c1 c4 (fun j u hj => by
                have : (cur.toList.take (ys.length * i.size))[j]? = some u := by rw [c5]; exact hj
                rw [List.getElem?_take] at this
                split at this
                · simpa using this
                · cases this) n2 n3 (fun c hc => by
                obtain ⟨l, hl, hcl⟩ := List.mem_flatten.1 hc
                obtain ⟨v, _, rfl⟩ := List.mem_map.1 hl
                exact notOwn_map c hcl) hk c3
              refine ⟨.slice (some ⟨w.heap.size, 0, none⟩) ys.length cap', w', g', .inl ?_, t1, ?_⟩
              · rw [hrun]
                simp only [builtin, List.map_cons, List.map_nil, hev, q1, Sem.run_bind, k1, Result.andThen_ok, Sem.run_pure]
              · rw [hd'.1]
                exact t2.put he hd'.2 (.sl _ _ _ _ _ _ cap' t3 t4 (by simp) c2) (.of_ne fun _ _ _ h => by simp at h)
        · cases h0
      · cases he
    · cases he
  · cases hop
end
end AM
/-! Heap slices become immutable. -/
namespace AM
open Go
section
variable {P : Program} {gl : Glob} {N : Nat} {g g' : Gh} {s s' : St} {a : Act} {w w' : World} {o : Oper}

/-- The block of a dead object goes to somebody, with immutable cells. -/
theorem Rel.reown (h : Rel P gl N g s a w) {id b : Nat} {ws : List Value} {ow : Owner} (hid : s.heap[id]? = some .dead) (hb : g.ρ id = some b) (ho : g.Ω b = .ob id) (hγ : ∀ off, g.γ b off = none) (hm : ∀ arr n, w.heap[b]? ≠ some (.map arr n))
    (hc : ∀ (j : Nat) u, ws[j]? = some u → w.cell? ⟨b, j, none⟩ = some u) : GLe g w (g.app b ws ow) w ∧ Rel P gl N (g.app b ws ow) s a w := by
  have hg : GhLe g (g.app b ws ow) := ⟨fun k off v hv => by
    have : k ≠ b := by rintro rfl; rw [hγ] at hv; cases hv
    simpa [Gh.app, this] using hv, fun _ _ h => h⟩
  have hk : Kept g w (g.app b ws ow) w fun o => o ≠ .ob id := fun k hk => by
    have : k ≠ b := by rintro rfl; exact hk ho
    exact ⟨by simp [Gh.app, this], rfl, fun _ => by simp [Gh.app, this]⟩
  refine ⟨⟨hg, fun k hko => ?_, Nat.le_refl _, rfl, rfl⟩, ?_⟩
  · have : k ≠ b := by rintro rfl; have := ho.symm.trans hko; cases this
    exact ⟨by simpa [Gh.app, this] using hko, rfl, fun _ => by simp [Gh.app, this]⟩
  · refine ⟨h.sorted, h.size, h.defers, fun t e he => (h.env t e he).kept hg hk (by simp) (by simp) (by simp), fun id' ob hob => ?_, fun k off v hv => ?_, fun k hk => ?_, fun n x hx => (h.glob n x hx).mono hg.γ, h.rho⟩
    · by_cases e : id' = id
      · subst e; rw [hid] at hob; simp at hob; subst hob; trivial
      · exact (h.heap id' ob hob).beside hg hk e hb hm (fun i hi => by simp [hi]) (by simp)
    · by_cases e : k = b
      · subst e
        simp only [Gh.app, if_true] at hv
        exact hc off v hv
      · simp only [Gh.app, e, if_false] at hv
        exact h.gam k off v hv
    · by_cases e : k = b
      · subst e; exact h.own k (by rw [ho]; simp)
      · simp only [Gh.app, e, if_false] at hk; exact h.own k hk

/-- What a heap slice holds, when it is plain data. -/
theorem frz_core (h : Rel P gl N g s a w) {id n e sz : Nat} {cs : List AV} {v : Value} (hv : VR g (.sl id 0 n sz) v) (hid : s.heap[id]? = some (.buf e cs)) (hok : okElem P e sz = true) (hn : n * sz ≤ cs.length) (hp : ((cs.take (n * sz)).map AV.noOwn).all AV.pure1 = true) (hM : n ≤ M) (ow : Owner) :
    ∃ g', GLe g w g' w ∧ Rel P gl N g' { s with heap := s.heap.set id .dead } a w ∧ PR g'.γ (.list none sz (chunk sz n ((cs.take (n * sz)).map AV.noOwn))) v ∧
      OwnR P g' w ow (.list (some e) sz (chunk sz n ((cs.take (n * sz)).map AV.noOwn))) v := by
  obtain ⟨b, k, cap, q1, q2, q3, q4, rfl⟩ := hv.sl_inv
  obtain ⟨b', k', p1, p1', p2, ⟨arr, p3, p4⟩, i0, z0, p5, p6, p7, p8, p9, p10⟩ := h.heap _ _ hid
  rw [q1] at p1; simp at p1; subst p1
  rw [q2] at p1'; simp at p1'; subst p1'
  obtain ⟨i, z, r1, r2, r3, r4, r5, r6⟩ := okElem_spec hok
  rw [r1] at p5; simp at p5; subst p5
  obtain ⟨ws, c1, c2, c3, c4⟩ := p2.cells (off := 0) (n := n * sz)
  simp only [List.drop_zero] at c1 c2
  obtain ⟨arr', ty', y1, y2, y3, y4, y5⟩ := p2
  rw [p3] at y1; simp at y1; obtain ⟨rfl, rfl⟩ := y1
  rw [Nat.zero_add] at q3
  have hidlt : id < s.heap.length := (List.getElem?_eq_some_iff.1 hid).1
  have hwsl : ws.length = n * sz := by have := c2.get.1; simp at this; omega
  have hcell : ∀ (j : Nat) u, ws[j]? = some u → w.cell? ⟨b, j, none⟩ = some u := fun j u hu => by simpa using c4 j u hu
  obtain ⟨t1, t2⟩ := (h.dead id).reown (id := id) (b := b) (ws := ws) (ow := ow) (by simp [hidlt]) q1 y3 y4 (by simp [p3]) hcell
  have hprs : PRs (g.app b ws ow).γ ((cs.take (n * sz)).map AV.noOwn) ws := PRs.mono t1.γ (c2.noOwn.pure_prs hp c3)
  have hprc : PRc (g.app b ws ow).γ b 0 ((cs.take (n * sz)).map AV.noOwn) := PRc.of_list hprs fun j u hu => by simp [Gh.app, hu]
  have hlen : ((cs.take (n * sz)).map AV.noOwn).length = n * sz := by simp; omega
  obtain ⟨hr, hl⟩ := chunk_rows r3 n 0 _ hlen hprc
  refine ⟨_, t1, t2, .list_of hl.symm (by omega) (by omega) hr, ?_⟩
  intro e0 sz0 xs hx
  simp only [AV.list.injEq, Option.some.injEq] at hx
  obtain ⟨rfl, rfl, rfl⟩ := hx
  have hcap : cap ≤ maxLen := by
    have : cap * i.size ≤ maxLen * i.size := by rw [r2]; rw [r2] at p10; omega
    exact Nat.le_of_mul_le_mul_right this p6
  have hws : arr.toList.take (n * sz) = ws := by
    apply List.ext_getElem?
    intro j
    rw [List.getElem?_take]
    split
    · rename_i hj
      have hj' : j < ws.length := by omega
      have h1 := c4 j ws[j] (by simp [hj'])
      simp only [World.cell?, p3, Nat.zero_add] at h1
      rw [List.getElem?_eq_getElem hj', Array.getElem?_toList]
      simpa using h1
    · rename_i hj
      rw [List.getElem?_eq_none (by omega)]
  refine ⟨i, z, ws, r1, r2, r3, r4, r5, r6, by omega, ⟨by rw [hl]; exact hwsl, .inr ⟨b, cap, arr, by rw [hl], Nat.zero_le _, p3, by rw [hl]; exact q4, hcap, by omega, by rw [hl]; exact hws⟩⟩, fun b' hb' => ?_⟩
  simp only [Value.ownBlock, Option.some.injEq] at hb'
  subst hb'
  refine ⟨by simp [Gh.app], hr, fun off hoff => ?_⟩
  simp only [Gh.app, if_true]
  rw [List.getElem?_eq_none]; rw [hl] at hoff; omega

/-- ghost: the heap slice in t becomes a list -/
def frzS (s : St) (t e sz : Nat) : Option St := match Env.get s.env t with
  | some (.v (.sl id 0 n sz')) => match s.heap[id]? with
    | some (.buf e' cs) => if e' = e ∧ sz' = sz ∧ n * sz ≤ cs.length ∧ ((cs.take (n * sz)).map AV.noOwn).all AV.pure1 = true ∧ n ≤ M then
        some { env := s.env.ins t (.v (.list (some e) sz (chunk sz n ((cs.take (n * sz)).map AV.noOwn)))), heap := s.heap.set id .dead } else none
    | _ => none
  | some (.v _) => some s
  | _ => none
/-- ghost: the heap slice in a cell of a box becomes a list -/
def frzbS (s : St) (t off e sz : Nat) : Option St := match Env.get s.env t with
  | some (.b bs) => match bs[off]? with
    | some (.sl id 0 n sz') => match s.heap[id]? with
      | some (.buf e' cs) => if e' = e ∧ sz' = sz ∧ n * sz ≤ cs.length ∧ ((cs.take (n * sz)).map AV.noOwn).all AV.pure1 = true ∧ n ≤ M then
          some { env := s.env.ins t (.b (bs.set off (.list none sz (chunk sz n ((cs.take (n * sz)).map AV.noOwn))))), heap := s.heap.set id .dead } else none
      | _ => none
    | some _ => some s
    | none => none
  | _ => none
/-- A value at a temporary is seen otherwise. -/
theorem Rel.reput (h : Rel P gl N g s a w) {t : Nat} {x y : AV} {v : Value} (ht : s.env.get t = some (.v x)) (hv : a.tmps[t]? = some v) (hy : VR g y v) (ho : OwnR P g w (.var t) y v) : Rel P gl N g { s with env := s.env.ins t (.v y) } a w := by
  refine ⟨Env.Sorted.ins h.sorted t _, h.size, h.defers, fun u e he => ?_, h.heap, h.gam, h.own, h.glob, h.rho⟩
  simp only at he ⊢
  rw [Env.get_ins] at he
  split at he
  · rename_i e0; subst e0; simp at he; subst he
    exact ⟨v, hv, hy, ho⟩
  · rename_i e0
    have h1 := h.env u e he
    cases e with
    | v y => exact h1
    | b cs => exact h1
    | a u' off =>
      obtain ⟨⟨cs, hu⟩, p⟩ := h1
      refine ⟨⟨cs, ?_⟩, p⟩
      rw [Env.get_ins]
      have : u' ≠ t := by rintro rfl; rw [ht] at hu; simp at hu
      simp [this, hu]
theorem Rel.frz (h : Rel P gl N g s a w) {t e sz : Nat} (hok : okElem P e sz = true) (he : frzS s t e sz = some s') : ∃ g', GLe g w g' w ∧ Rel P gl N g' s' a w := by
  unfold frzS at he
  split at he
  · rename_i id n sz' ht
    split at he
    · rename_i e' cs hid
      split at he
      · rename_i hb
        obtain ⟨rfl, rfl, hb1, hb2, hb3⟩ := hb
        simp only [Option.some.injEq] at he; subst he
        obtain ⟨v, p1, p2, _⟩ := h.env _ _ ht
        obtain ⟨g', q1, q2, q3, q4⟩ := frz_core h p2 hid hok hb1 hb2 hb3 (.var t)
        exact ⟨g', q1, q2.reput ht p1 (.own _ _ _ _ q3) q4⟩
      · cases he
    · cases he
  · simp at he; subst he; exact ⟨g, .refl _ _, h⟩
  · cases he
/-- A cell of a box is seen otherwise. -/
theorem Rel.recell (h : Rel P gl N g s a w) {t off : Nat} {bs : List AV} {x y : AV} (ht : s.env.get t = some (.b bs)) (hx : bs[off]? = some x) (hy : ∀ v, VR g x v → VR g y v) (hn : NotOwn y) : Rel P gl N g { s with env := s.env.ins t (.b (bs.set off y)) } a w := by
  refine ⟨Env.Sorted.ins h.sorted t _, h.size, h.defers, fun u e he => ?_, h.heap, h.gam, h.own, h.glob, h.rho⟩
  simp only at he ⊢
  rw [Env.get_ins] at he
  split at he
  · rename_i e0; subst e0; simp at he; subst he
    obtain ⟨b, p1, arr, ty, q1, q2, q3, q4, q5⟩ := h.env _ _ ht
    refine ⟨b, p1, arr, ty, q1, by simpa using q2, q3, q4, fun i c hc => ?_⟩
    rw [List.getElem?_set] at hc
    split at hc
    · rename_i e1; subst e1
      split at hc
      · simp at hc; subst hc
        obtain ⟨v, r1, r2, r3, r4⟩ := q5 _ _ hx
        exact ⟨v, r1, r2, hy v r3, hn.ownR⟩
      · cases hc
    · exact q5 i c hc
  · rename_i e0
    have h1 := h.env u e he
    cases e with
    | v y => exact h1
    | b cs => exact h1
    | a u' off =>
      obtain ⟨⟨cs, hu⟩, p⟩ := h1
      refine ⟨?_, p⟩
      rw [Env.get_ins]
      by_cases e1 : u' = t
      · simp [e1]
      · simp [e1, hu]
theorem Rel.frzb (h : Rel P gl N g s a w) {t off e sz : Nat} (hok : okElem P e sz = true) (he : frzbS s t off e sz = some s') : ∃ g', GLe g w g' w ∧ Rel P gl N g' s' a w := by
  unfold frzbS at he
  split at he
  · rename_i bs ht
    split at he
    · rename_i id n sz' hx
      split at he
      · rename_i e' cs hid
        split at he
        · rename_i hb
          obtain ⟨rfl, rfl, hb1, hb2, hb3⟩ := hb
          simp only [Option.some.injEq] at he; subst he
          obtain ⟨b, p1, arr, ty, q1, q2, q3, q4, q5⟩ := h.env _ _ ht
          obtain ⟨v, r1, r2, r3, r4⟩ := q5 _ _ hx
          obtain ⟨g', q1, q2, q3, _⟩ := frz_core h r3 hid hok hb1 hb2 hb3 .junk
          refine ⟨g', q1, q2.recell (s := { s with heap := s.heap.set id .dead }) ht hx (fun v' hv' => ?_) (NotOwn.none _ _)⟩
          have hv1 := r3.mono q1.toGhLe
          obtain ⟨_, _, _, _, _, r9, _⟩ := okElem_spec hok
          obtain ⟨b1, k1, c1, m1, m2, m3, m4, rfl⟩ := hv1.sl_inv
          obtain ⟨b2, k2, c2, n1, n2, n3, n4, rfl⟩ := hv'.sl_inv
          rw [m1] at n1; simp at n1; subst n1
          rw [m2] at n2; simp at n2; subst n2
          have hcc : c1 = c2 := Nat.eq_of_mul_eq_mul_right (show 0 < sz' by omega) (by omega)
          subst hcc
          exact .pure _ _ q3
        · cases he
      · cases he
    · simp at he; subst he; exact ⟨g, .refl _ _, h⟩
    · cases he
  · cases he
end
end AM
/-! The simulation of objects of a known type, and of their addresses as bare pointers. -/
namespace AM
open Go
section
variable {P : Program} {gl : Glob} {N : Nat} {g g' : Gh} {s s' : St} {a : Act} {w w' : World} {o : Oper}

def chkAllocT (P : Program) (N : Nat) (o : Oper) (d e : Nat) (z : List AV) : Bool := dstIs N o d && (match o.op with | .alloc e' => e' == e && zeroOk P e z && okElem P e z.length | _ => false)
theorem sim_allocT {d e : Nat} {z : List AV} (h : Rel P gl N g s a w) (hc : chkAllocT P N o d e z = true) (he : ev gl s (.allocT d e z) = some s') : Sim1 P gl N o g a w s' := by
  simp only [chkAllocT, Bool.and_eq_true] at hc
  obtain ⟨hd, hop⟩ := hc
  split at hop
  · rename_i e' ho
    simp only [Bool.and_eq_true, beq_iff_eq] at hop
    obtain ⟨⟨rfl, hz⟩, hok⟩ := hop
    obtain ⟨i, v, p1, p2, p3, p4, p5⟩ := zeroOk_spec (g := g) hz
    obtain ⟨i', z', r1, r2, r3, r4, r5, r6⟩ := okElem_spec hok
    rw [r1] at p1; simp at p1; subst p1
    rw [r4] at p2; simp at p2; subst p2
    simp only [ev] at he
    simp only [dstIs, Bool.and_eq_true, beq_iff_eq, decide_eq_true_eq] at hd
    obtain ⟨g', q1, q2, q3, _⟩ := h.allocBuf hok p3 p4 p5 (by rw [Array.length_toList, r5]; exact Nat.le_mul_of_pos_left _ (by decide))
    refine ⟨ptrTo w.heap.size 0, w.alloc (.cells z'.cells e'), g', .inl ?_, by simpa using q1, ?_⟩
    · simp only [execOp, ho, Sem.run_bind, run_alloc r1 r4, Result.andThen_ok, Sem.run_pure]
    · rw [hd.1]
      have := q2.put he hd.2 (.ptr _ 0 _ q3) (notOwn_ptr _ _).ownR
      simpa [ptrTo] using this
  · cases hop
theorem lies_self {P : Program} {e c : Nat} (h0 : P.cellsOf e ≠ 0) (hc : 1 ≤ c) : liesAt P P.depth e c 0 e 1 = true := by
  have hd : P.depth = (2 * (P.types.size + Made.depth) + 1) + 1 := rfl
  rw [hd]
  unfold liesAt
  have hs : sameLayout P P.depth e e = true := by
    rw [hd]; unfold sameLayout; simp
  have : rowAt P (fun t => sameLayout P P.depth t e) P.depth e c 0 1 = true := by
    conv => lhs; rw [show P.depth = (2 * (P.types.size + Made.depth) + 1) + 1 from rfl]
    unfold rowAt
    rw [← hd]
    simp [h0, hs, hc]
  rw [this]; rfl
def chkCvt (P : Program) (N : Nat) (o : Oper) (d : Nat) (x : Opd) (e sz : Nat) : Bool := dstIs N o d && okElem P e sz && (match o.op with
  | .convert sT dT x' => chkOpd x' x && (match P.underlying sT, P.underlying dT with | some (.pointer u), some .unsafePointer => u == e | some .unsafePointer, some (.pointer u) => u == e | _, _ => false)
  | _ => false)
theorem sim_cvt {d e sz : Nat} {x : Opd} (h : Rel P gl N g s a w) (hc : chkCvt P N o d x e sz = true) (he : ev gl s (.cvt d x e sz) = some s') : Sim1 P gl N o g a w s' := by
  simp only [chkCvt, Bool.and_eq_true] at hc
  obtain ⟨⟨hd, hok⟩, hop⟩ := hc
  obtain ⟨i, z, r1, r2, r3, r4, r5, r6⟩ := okElem_spec hok
  simp only [ev] at he
  split at he
  · rename_i id hx
    split at he
    · rename_i e' cs hid
      split at he
      · rename_i hh
        obtain ⟨rfl, hsz⟩ := hh
        obtain ⟨b, k, q1, q2, q3, ⟨arr, q4, q5⟩, _⟩ := h.heap _ _ hid
        have hlen : cs.length ≤ arr.size := by
          obtain ⟨arr', ty, p1, p2, _⟩ := q3
          rw [q4] at p1; simp at p1; rw [p1.1]; exact p2
        have hsh : w.shape? b = some (e', arr.size) := by simp [World.shape?, q4]
        split at hop
        · rename_i sT dT x' ho
          simp only [Bool.and_eq_true] at hop
          obtain ⟨hx', hty⟩ := hop
          have hv := evO_sound h hx' hx
          have hval : a.eval x' = ptrTo b 0 := by
            revert hv
            generalize a.eval x' = v
            intro hv
            cases hv with
            | pure _ _ hp => cases hp
            | ptr _ _ b' hb' => rw [q1] at hb'; simp at hb'; subst hb'; rfl
          have hcells : P.cellsOf e' = sz := by simp [Program.cellsOf, r1, r2]
          have hrun : (convert sT dT (.pointer (some ⟨b, 0, none⟩))).run P w = .ok (.pointer (some ⟨b, 0, none⟩)) w := by
            split at hty
            · rename_i u h1 h2
              simp at hty; subst hty
              exact Lib.run_to_unsafe w ⟨b, 0, none⟩ h1 h2 r1 (by omega) hsh (by show 0 < arr.size; omega)
            · rename_i u h1 h2
              simp at hty; subst hty
              refine Lib.run_from_unsafe w ⟨b, 0, none⟩ h1 h2 r1 hsh (lies_self (by omega) ?_)
              rw [hcells]
              exact (Nat.one_le_div_iff r3).2 (by omega)
            · cases hty
          refine .value h hd he (v := ptrTo b 0) ?_ (.ptr _ 0 _ q1) (fun _ _ _ h => by simp at h)
          simp only [execOp, ho, Sem.run_bind, hval, ptrTo, hrun, Result.andThen_ok, Sem.run_pure]
        · cases hop
      · cases he
    · cases he
  · cases he
end
end AM
/-! The abstract machine's code: regions, branches, loops; its meaning in the model. -/
namespace AM
open Go

/-- What may be handed to a function that is called without the heap. -/
def AV.arg : AV → Bool
  | .fn _ cs => cs.all AV.pure1
  | x => x.pure

def gv (γ : Gam) : Gh := ⟨γ, fun _ => .none, fun _ => none⟩
/-- The ghost behind a call: what is new belongs to the result. -/
def gr (γ : Gam) (n : Nat) : Gh := ⟨γ, fun b => if b < n then .outer else .var 0, fun _ => none⟩

/-- What a call without the heap leaves. -/
def DetPost (P : Program) (γ : Gam) (w : World) (r : AV) (e : Ending) (w' : World) : Prop :=
  ∃ v γ', e = .returned v ∧ GamLe γ γ' ∧ w.heap.size ≤ w'.heap.size ∧ (∀ b, b < w.heap.size → w'.heap[b]? = w.heap[b]? ∧ ∀ o, γ' b o = γ b o) ∧ ((w'.os, w'.tape) = (w.os, w.tape) ∧ w'.output = w.output) ∧
    (∀ b off v, γ' b off = some v → w'.cell? ⟨b, off, none⟩ = some v) ∧ VR (gr γ' w.heap.size) r v ∧ OwnR P (gr γ' w.heap.size) w' (.var 0) r v
/-- A call without the heap: it returns 'r', whatever the memory. -/
def Det (P : Program) (gl : Glob) (f : Nat) (xs : List AV) (r : AV) : Prop :=
  ∀ γ w vs, (∀ b off v, γ b off = some v → w.cell? ⟨b, off, none⟩ = some v) → (∀ n x, gl n = some x → PR γ x (ptrTo n 0)) → VRs (gv γ) xs vs →
    Calls P f vs.toArray w (DetPost P γ w r)

/-- A state of a heap alone. -/
def heapSt (H : List AObj) : St := ⟨[], H⟩
def noAct : Act := ⟨#[], []⟩
/-- What can be called. -/
def chkCallee (P : Program) (f : Nat) : Bool := match P.funcs[f]? with | some fn => fn.name != "runtime.NumGoroutine" && !fn.body.isNone | none => false
/-- A call over a heap: whatever the memory, it returns some 'r' and leaves some 'H'' of which 'K' holds. -/
def CallT (P : Program) (gl : Glob) (f : Nat) (xs : List AV) (H : List AObj) (K : AV → List AObj → Prop) : Prop :=
  chkCallee P f = true ∧ ∀ g w vs, Rel P gl 0 g (heapSt H) noAct w → VRs g xs vs → (∀ (i : Nat) x v, xs[i]? = some x → vs[i]? = some v → OwnR P g w (.var i) x v) →
    Calls P f vs.toArray w fun e w' => ∃ v r H' g', e = .returned v ∧ K r H' ∧ GLe g w g' w' ∧ Rel P gl 0 g' (heapSt H') noAct w' ∧ VR g' r v ∧ OwnR P g' w' (.var 0) r v

/-- The same, with an outcome. -/
def CallE (P : Program) (gl : Glob) (f : Nat) (xs : List AV) (H : List AObj) (K : AV → List AObj → Prop) : Prop := CallT P gl f xs H K ∧ ∃ r H', K r H'

theorem CallT.mono {P : Program} {gl : Glob} {f : Nat} {xs : List AV} {H : List AObj} {K K' : AV → List AObj → Prop} (h : CallT P gl f xs H K) (hk : ∀ r H, K r H → K' r H) : CallT P gl f xs H K' :=
  ⟨h.1, fun g w vs h1 h2 h3 => (h.2 g w vs h1 h2 h3).mono fun _ _ ⟨v, r, H', g', q1, q2, q3⟩ => ⟨v, r, H', g', q1, hk _ _ q2, q3⟩⟩
theorem CallE.mono {P : Program} {gl : Glob} {f : Nat} {xs : List AV} {H : List AObj} {K K' : AV → List AObj → Prop} (h : CallE P gl f xs H K) (hk : ∀ r H, K r H → K' r H) : CallE P gl f xs H K' :=
  ⟨h.1.mono hk, h.2.elim fun r ⟨H', h⟩ => ⟨r, H', hk _ _ h⟩⟩

def dstOf : SOp → Option Nat
  | .mv d _ | .tk d _ | .nil_ d _ _ | .pick d _ _ _ | .bin d _ _ _ _ | .eqa d _ _ _ _ | .not_ d _ | .neg d _ | .conv d _ _ | .ext d _ _ | .len d _ _ | .alloc d _ | .box d _ | .allocH d _ | .boxH d _ | .boxI d _
  | .build d _ _ | .lit d _ _ | .fa d _ _ | .ia d _ _ _ | .iaa d _ _ _ _ | .ld d _ _ _ | .ldt d _ _ _ | .idx d _ _ | .slc d _ _ _ _ | .sla d _ _ _ _ _ | .app d _ _ _ _ | .nilchk d _ | .mkfn d _ _ | .mkself d _ _ _ | .mm d _ _ _
  | .mkmap d | .look _ d _ _ _ _ | .lookT _ d _ _ _ | .rng d _ | .nxt d _ | .entr d _ | .litH d _ _ _ | .litO d _ _ _ | .mks d _ _ _ | .allocT d _ _ | .cvt d _ _ _ | .apph d _ _ _ _ _ | .appc d _ _ _ _ | .appd d _ _ _ _ | .clo d _ _ | .isnil d _ _ | .sdata d _ | .ustr d _ _ _ | .noesc d _ _ | .cmps d _ _ _ => some d
  | .st _ _ _ | .stt _ _ | .upd _ _ _ _ | .updT _ _ _ _ => none
  | .mdel _ d _ _ | .callP d _ _ | .callI d _ _ | .callV d _ _ | .callR d _ _ | .callG d _ _ _ | .bad d => d
  | .on _ o => dstOf o

/-- ghost: the object that t holds is not used any more -/
def killS (s : St) (t : Nat) : St := match Env.get s.env t with
  | some (.v (.ptr id 0)) => { s with heap := s.heap.set id .dead }
  | some (.v (.map id)) => { s with heap := s.heap.set id .dead }
  | _ => s
def guardV (env : Env) : Option (Nat × Bool) → Option Bool
  | none => some true
  | some (t, want) => match Env.get env t with | some (.v (.bool b)) => some (b == want) | some (.v (.tup [])) => some false | _ => none

/-- What pure calls give. -/
abbrev Dets := Nat → List AV → Option AV
section
variable (P : Program) (gl : Glob) (D : Dets)
def opX (s : St) (K : St → Prop) : SOp → Prop
  | .callP d f xs => match evOs gl s.env xs with
    | some vs => (vs.map AV.noOwn).all AV.arg = true ∧ (match D f (vs.map AV.noOwn) with
      | some r => Det P gl f (vs.map AV.noOwn) r ∧ (match s.putO d r with | some s' => K s' | none => False)
      | none => False)
    | none => False
  | .callI d f xs => match evOs gl s.env xs with
    | some vs => CallE P gl f (vs.map AV.noOwn) s.heap fun r H' => match ({ s with heap := H' }).putO d r with | some s' => K s' | none => False
    | none => False
  | .callR d f xs => match evOs gl s.env xs with
    | some vs => CallE P gl f (vs.map AV.noOwn) s.heap fun r H' => (∃ n, H' = s.heap ++ List.replicate n .dead) ∧ match ({ s with heap := H' }).putO d r with | some s' => K s' | none => False
    | none => False
  | .callG d f u xs => match Env.get s.env u, evOs gl s.env xs with
    | some (.v (.list (some e) sz ys)), some vs => CallE P gl f (.list (some e) sz ys :: vs.map AV.noOwn) s.heap fun r H' => match (⟨s.env.ins u (.v (.list none sz ys)), H'⟩ : St).putO d r with | some s' => K s' | none => False
    | some (.v v), some vs => CallE P gl f (v.noOwn :: vs.map AV.noOwn) s.heap fun r H' => match ({ s with heap := H' } : St).putO d r with | some s' => K s' | none => False
    | _, _ => False
  | .nxt d it => match (evO gl s.env it).bind (cands s.heap) with
    | some (id, m, since, seen, es) => match es with
      | [] => (match s.put d (.tup [.bool false]) with | some s' => K s' | none => False)
      | e0 :: es => ∀ e ∈ e0 :: es, match ({ s with heap := s.heap.set id (.iter m since (seen ++ [e.1])) } : St).put d (.tup [.bool true, e.1, e.2.noOwn]) with | some s' => K s' | none => False
    | none => False
  | .callV d x xs => match evO gl s.env x, evOs gl s.env xs with
    | some (.fn f caps), some vs => CallE P gl f (vs.map AV.noOwn ++ caps.map AV.noOwn) s.heap fun r H' => match ({ s with heap := H' }).putO d r with | some s' => K s' | none => False
    | _, _ => False
  | o => match ev gl s o with | some s' => K s' | none => False
def runR : List It → St → (St → Prop) → Prop
  | [], s, K => K s
  | it :: r, s, K => match guardV s.env it.g with
    | some true => opX P gl D s (fun s' => runR r s' K) it.o
    | some false => (match dstOf it.o with
      | some d => (match s.put d (.tup []) with | some s' => runR r s' K | none => False)
      | none => runR r s K)
    | none => False
/-- Loops: the least meaning. -/
def loopX (F : St → (Ex → St → Prop) → Prop) (s : St) (Q : Ex → St → Prop) : Prop :=
  ∀ X : St → Prop, (∀ s, F s (fun e s' => match e with | .normal => X s' | e => Q e s') → X s) → X s
def exec : SCode → St → (Ex → St → Prop) → Prop
  | .skip, s, Q => Q .normal s
  | .reg its dr, s, Q => runR P gl D its s fun s' => Q .normal { s' with env := s'.env.close dr }
  | .seq a b, s, Q => exec a s fun e s' => match e with | .normal => exec b s' Q | e => Q e s'
  | .cond c a b, s, Q => match evO gl s.env c with
    | some (.bool t) => if t = true then exec a s Q else exec b s Q
    | _ => False
  | .block id c, s, Q => exec c s fun e s' => match e with | .exit i => if i = id then Q .normal s' else Q (.exit i) s' | e => Q e s'
  | .loop c, s, Q => loopX (fun s Q => exec c s Q) s Q
  | .exit id, s, Q => Q (.exit id) s
  | .ret, s, Q => Q .ret s
  | .asm t c, s, Q => (match Env.get s.env t with
      | some (.v (.list _ _ xs)) => xs.length ≤ M → exec c s Q
      | some (.v (.str l)) => l.length ≤ M → exec c s Q
      | _ => False)
  | .drop ts c, s, Q => exec c { s with env := s.env.close ts } Q
  | .frz t e sz c, s, Q => (match frzS s t e sz with | some s' => exec c s' Q | none => False)
  | .frzb t off e sz c, s, Q => (match frzbS s t off e sz with | some s' => exec c s' Q | none => False)
  | .kill t c, s, Q => exec c (killS s t) Q
  | .bad, _, _ => False
end

/-- Results. -/
inductive RV where
  | t (n : Nat)
  | b (n sz : Nat)
def retV1 (env : Env) : RV → Option AV
  | .t n => match Env.get env n with | some (.v x) => some x | _ => none
  | .b n sz => match Env.get env n with | some (.b cs) => if cs.length = sz then some (.agg (cs.map AV.noOwn)) else none | _ => none
def retVs (env : Env) : List RV → Option (List AV)
  | [] => some []
  | r :: rs => match retV1 env r, retVs env rs with | some x, some xs => some (x.noOwn :: xs) | _, _ => none
def retV (env : Env) : List RV → Option AV
  | [r] => retV1 env r
  | rs => (retVs env rs).map .tup

-- the checker
section
variable (P : Program) (N : Nat)
def chkDstO (N : Nat) (o : Oper) : Option Nat → Bool
  | some d => dstIs N o d
  | none => o.dst == none
def chkOp (o : Oper) : SOp → Bool
  | .mv d x => chkCopy N o d x
  | .tk d x => chkCopy N o d (.t x)
  | .nil_ d e sz => chkNil P N o d e sz
  | .pick d c a b => chkPick N o d c a b
  | .bin d m op x y => chkBin P N o d m op x y
  | .eqa d ne ks x y => chkEqa P N o d ne ks x y
  | .not_ d x => chkNot N o d x
  | .neg d x => chkNeg N o d x
  | .conv d k x => chkConv P N o d k x
  | .ext d x i => chkExt N o d x i
  | .len d m x => chkLen P N o d m x
  | .alloc d z => chkAlloc P N o d z
  | .box d x => chkBox N o d x
  | .allocH d z => chkAllocH P N o d z
  | .boxH d x => chkBoxH N o d x
  | .build d z parts => chkBuild P N o d z parts
  | .lit d sz xs => chkLit P N o d sz xs
  | .fa d x off => chkFa P N o d x off
  | .ia d sz x i => chkIa P N o d sz x i
  | .ld d x n ag => chkLd P N o d x n ag
  | .ldt d x e sz => chkLdt P N o d x e sz
  | .st n x v => chkSt P o n x v
  | .stt x v => chkSt P o 1 x (.t v)
  | .idx d x i => chkIdx P N o d x i
  | .slc d sz x lo hi => chkSlc P N o d sz x lo hi
  | .app d u x e sz => chkApp P N o d u x e sz
  | .nilchk d x => chkNilchk N o d x
  | .mkfn d f caps => chkMkfn N o d f caps
  | .mkself d c e sz => chkMkself P N o d c e sz
  | .mm d mx x y => chkMm N o d mx x y
  | .allocT d e z => chkAllocT P N o d e z
  | .cvt d x e sz => chkCvt P N o d x e sz
  | .mkmap d => chkMkmap N o d
  | .look ks d m k zero ok => chkLook P N o ks d m k zero ok
  | .lookT ks d m k zero => chkLookT P N o ks d m k zero
  | .upd ks m k v => chkUpd P o ks m k v
  | .updT ks m k v => chkUpdT P o ks m k v
  | .mdel ks d m k => chkMdel P N o ks d m k
  | .rng d m => chkRng P N o d m
  | .nxt d it => chkNxt N o d it
  | .entr d it => chkEntr N o d it
  | .clo d x sz => chkClo P N o d x sz
  | .appc d u x e sz => chkAppc P N o d u x e sz
  | .appd d u x e sz => chkAppc P N o d u x e sz
  | .apph d e sz sb u x => chkApph P N o d e sz sb u x
  | .sdata d x => chkSdata N o d x
  | .ustr d e x n => chkUstr P N o d e x n
  | .noesc d f x => chkExt1 P N o d f "internal/abi.NoEscape" [x]
  | .cmps d f x y => chkExt1 P N o d f "internal/bytealg.abigen_runtime_cmpstring" [x, y]
  | .callP d f xs | .callI d f xs | .callR d f xs => chkDstO N o d && chkCallee P f && (match o.op with | .call c => (match c.callee with | .value (.func f') => f' == f && chkOpds c.args.toList xs | _ => false) | _ => false)
  | .callG d f u xs => chkDstO N o d && chkCallee P f && (match o.op with | .call c => (match c.callee with | .value (.func f') => f' == f && chkOpds c.args.toList (.t u :: xs) | _ => false) | _ => false)
  | .callV d x xs => chkDstO N o d && (match o.op with | .call c => (match c.callee with | .value y => chkOpd y x && chkOpds c.args.toList xs | _ => false) | _ => false)
  | .boxI d x => chkBox N o d x
  | .isnil d ne x => chkIsnil P N o d ne x
  | .litO d e sz xs => chkLitO P N o d e sz xs
  | .iaa d x n sz i => chkIaa P N o d x n sz i
  | .sla d x n sz lo hi => chkSla P N o d x n sz lo hi
  | .litH d e sz xs => chkLitH P N o d e sz xs
  | .mks d e z x => chkMks P N o d e z x
  | .on _ so => chkOp o so
  | .bad _ => true
def chkGuard (ops : Array Oper) (o : Oper) (it : It) : Bool :=
  match o.guard, it.g with
  | none, none => true
  | some (j, want), some (t, want') => want == want' && ((ops[j]?).bind (·.dst)) == some t
  | _, _ => false
def chkDst (o : Oper) (so : SOp) : Bool := match dstOf so with | some d => o.dst == some d && decide (d < N) | none => o.dst == none
def chkIts (ops : Array Oper) : List Oper → List It → Bool
  | [], [] => true
  | o :: os, it :: its => chkGuard ops o it && chkDst N o it.o && chkOp P N o it.o && chkIts ops os its
  | _, _ => false
end
end AM
/-! The abstract machine's steps are the model's: operations, calls, regions. -/
namespace AM
open Go
section
variable {P : Program} {gl : Glob} {D : Dets} {N : Nat} {g g' : Gh} {s s' : St} {a : Act} {w w' : World} {o : Oper}

theorem ev_sim {so : SOp} (h : Rel P gl N g s a w) (hc : chkOp P N o so = true) (he : ev gl s so = some s') : Sim1 P gl N o g a w s' := by
  cases so <;> simp only [chkOp, Bool.false_eq_true] at hc
  case mv d x => exact sim_mv h hc he
  case tk d x => exact sim_tk h hc he
  case nil_ d e sz => exact sim_nil h hc he
  case pick d c a b => exact sim_pick h hc he
  case bin d m op x y => exact sim_bin h hc he
  case eqa d ne ks x y => exact sim_eqa h hc he
  case not_ d x => exact sim_not h hc he
  case neg d x => exact sim_neg h hc he
  case conv d k x => exact sim_conv h hc he
  case ext d x i => exact sim_ext h hc he
  case len d m x => exact sim_len h hc he
  case alloc d z => exact sim_alloc h hc he
  case box d x => exact sim_box h hc he
  case allocH d z => exact sim_allocH h hc he
  case boxH d x => exact sim_boxH h hc he
  case build d z parts => exact sim_build h hc he
  case lit d sz xs => exact sim_lit h hc he
  case fa d x off => exact sim_fa h hc he
  case ia d sz x i => exact sim_ia h hc he
  case ld d x n ag => exact sim_ld h hc he
  case ldt d x e sz => exact sim_ldt h hc he
  case st n x v => exact sim_st h hc he
  case stt x v => exact sim_stt h hc he
  case idx d x i => exact sim_idx h hc he
  case slc d sz x lo hi => exact sim_slc h hc he
  case app d u x e sz => exact sim_app h hc he
  case nilchk d x => exact sim_nilchk h hc he
  case mkfn d f caps => exact sim_mkfn h hc he
  case mkself d c e sz => exact sim_mkself h hc he
  case mm d mx x y => exact sim_mm h hc he
  case bad => cases he
  case on m so' =>
    simp only [ev] at he
    split at he
    · exact ev_sim h hc he
    · cases he
  case litH d e sz xs => exact sim_litH h hc he
  case mks d e z x => exact sim_mks h hc he
  case iaa d x n sz i => exact sim_iaa h hc he
  case sla d x n sz lo hi => exact sim_sla h hc he
  case boxI d x => exact sim_boxI h hc he
  case isnil d ne x => exact sim_isnil h hc he
  case litO d e sz xs => exact sim_litO h hc he
  case callP => cases he
  case callI => cases he
  case callV => cases he
  case callR => cases he
  case callG => cases he
  case nxt => cases he
  case mkmap d => exact sim_mkmap h hc he
  case look ks d m k zero ok => exact sim_look h hc he
  case lookT ks d m k zero => exact sim_lookT h hc he
  case upd ks m k v => exact sim_upd h hc he
  case updT ks m k v => exact sim_updT h hc he
  case mdel ks d m k => exact sim_mdel h hc he
  case rng d m => exact sim_rng h hc he
  case entr d it => exact sim_entr h hc he
  case clo d x sz => exact sim_clo h hc he
  case appc d u x e sz => exact sim_appc h hc he
  case appd d u x e sz => exact sim_appd h hc he
  case apph d e sz sb u x => exact sim_apph h hc he
  case sdata d x => exact sim_sdata h hc he
  case ustr d e x n => exact sim_ustr h hc he
  case allocT d e z => exact sim_allocT h hc he
  case cvt d x e sz => exact sim_cvt h hc he
  case noesc d f x => exact sim_noesc h hc he
  case cmps d f x y => exact sim_cmps h hc he

/-- What follows an operation. -/
def Post (P : Program) (gl : Glob) (N : Nat) (g : Gh) (w : World) (K : St → Prop) (a' : Act) (w' : World) : Prop := ∃ s' g', K s' ∧ GLe g w g' w' ∧ Rel P gl N g' s' a' w'

theorem Sim1.wp {K : St → Prop} {Q : Exit → Act → World → Prop} (h : Sim1 P gl N o g a w s') (hK : K s') : o.wp P a w (Post P gl N g w K) Q := by
  obtain ⟨v, w', g', hr, h1, h2⟩ := h
  unfold Oper.wp
  rcases hr with hr | ⟨hr, rfl⟩
  · rw [hr]; exact ⟨s', g', hK, h1, h2⟩
  · rw [hr]; exact ⟨s', g', hK, h1, h2⟩

theorem chkCallee_spec {f : Nat} (h : chkCallee P f = true) : ∃ fn, P.funcs[f]? = some fn ∧ (fn.name == "runtime.NumGoroutine") = false ∧ fn.body.isNone = false := by
  unfold chkCallee at h
  split at h
  · rename_i fn hf
    simp only [Bool.and_eq_true, bne_iff_ne, Bool.not_eq_true'] at h
    exact ⟨fn, hf, by simpa using h.1, h.2⟩
  · cases h
theorem run_callFunc {f : Nat} {args : Array Value} (h : chkCallee P f = true) : (callFunc f args).run P w = .ok (.enter f args) w := by
  obtain ⟨fn, h1, h2, h3⟩ := chkCallee_spec h
  simp only [callFunc, Sem.run_bind, run_program, Result.andThen_ok, h1, h2, Bool.false_eq_true, if_false, h3, Sem.run_pure]

theorem VRs.pure1_gv {cs : List AV} {ws : List Value} (h : VRs g cs ws) (hx : cs.all AV.pure1 = true) : VRs (gv g.γ) cs ws := by
  induction ws generalizing cs with
  | nil => cases h; exact .nil
  | cons u us ih => cases h with
    | cons c cs _ _ h1 h2 =>
      simp only [List.all_cons, Bool.and_eq_true] at hx
      exact .cons _ _ _ _ (.pure _ _ (h1.pure1_pr hx.1)) (ih h2 hx.2)
theorem arg_vr {x : AV} {v : Value} (h : VR g x v) (hx : x.arg = true) : VR (gv g.γ) x v := by
  by_cases hf : ∃ f cs, x = .fn f cs
  · obtain ⟨f, cs, rfl⟩ := hf
    cases h with
    | pure _ _ h => cases h
    | fn _ _ ws h => exact .fn _ _ _ (h.pure1_gv hx)
  · have : x.pure = true := by cases x <;> first | exact hx | exact absurd ⟨_, _, rfl⟩ hf
    exact .pure _ _ (h.pure_pr this)
theorem args_vrs {xs : List AV} {vs : List Value} (h : VRs g xs vs) (hx : xs.all AV.arg = true) : VRs (gv g.γ) xs vs := by
  induction vs generalizing xs with
  | nil => cases h; exact .nil
  | cons u us ih => cases h with
    | cons c cs _ _ h1 h2 =>
      simp only [List.all_cons, Bool.and_eq_true] at hx
      exact .cons _ _ _ _ (arg_vr h1 hx.1) (ih h2 hx.2)

/-- A result goes to its temporary. -/
theorem Rel.putO (h : Rel P gl N g s a w) {d : Option Nat} {x : AV} {v : Value} (hp : s.putO d x = some s') (hd : chkDstO N o d = true) (hv : VR g x v) (ho : OwnR P g w (.var (d.getD 0)) x v) :
    Rel P gl N g s' (a.put o.dst v) w := by
  cases d with
  | none =>
    simp [St.putO] at hp; subst hp
    simp only [chkDstO, beq_iff_eq] at hd
    rw [hd]; exact h
  | some d =>
    simp only [chkDstO, dstIs, Bool.and_eq_true, beq_iff_eq, decide_eq_true_eq] at hd
    rw [hd.1]
    exact h.put hp hd.2 hv ho

theorem det_wp {d : Option Nat} {f : Nat} {xs : List Opd} {us : List AV} {r : AV} {K : St → Prop} {Q : Exit → Act → World → Prop} (h : Rel P gl N g s a w)
    (hc : chkOp P N o (.callP d f xs) = true) (he : evOs gl s.env xs = some us) (ha : (us.map AV.noOwn).all AV.arg = true) (hd : Det P gl f (us.map AV.noOwn) r) (hp : s.putO d r = some s') (hK : K s') :
    o.wp P a w (Post P gl N g w K) Q := by
  simp only [chkOp, Bool.and_eq_true] at hc
  obtain ⟨⟨hdst, hcal⟩, hop⟩ := hc
  split at hop
  · rename_i c ho
    split at hop
    · rename_i f' hcl
      simp only [Bool.and_eq_true, beq_iff_eq] at hop
      obtain ⟨rfl, hxs⟩ := hop
      have hargs := (evOs_sound h hxs he).noOwn
      have hrun : (execOp a.eval o).run P w = .ok (.enter f' (c.args.toList.map a.eval).toArray) w := by
        have e : (List.map a.eval c.args.toList).toArray = c.args.map a.eval := by apply Array.ext'; simp
        simp only [execOp, ho, resolve, hcl, Act.eval, Deferred.ofValue, Sem.run_bind, Sem.run_pure, Result.andThen_ok, invoke]
        rw [run_callFunc hcal]
        simp only [Result.ok.injEq, Next.enter.injEq, true_and, and_true]
        rw [← e]; simp
      unfold Oper.wp
      rw [hrun]
      refine (hd g.γ w _ h.gam h.glob (args_vrs hargs ha)).mono fun e w' hpost => ?_
      obtain ⟨v, γ', rfl, h1, h2, h3, hos, h4, h5, h6⟩ := hpost
      let g1 : Gh := ⟨γ', fun b => if b < w.heap.size then g.Ω b else if v.ownBlock = some b then .var (d.getD 0) else .none, g.ρ⟩
      have hle : GhLe g g1 := ⟨h1, fun _ _ h => h⟩
      have hsame : ∀ b, g.Ω b ≠ .none → g1.Ω b = g.Ω b ∧ w'.heap[b]? = w.heap[b]? ∧ ∀ o, g1.γ b o = g.γ b o := fun b hb => by
        have hlt := h.own b hb
        exact ⟨by simp [g1, hlt], (h3 b hlt).1, (h3 b hlt).2⟩
      have hown : ∀ b, v.ownBlock = some b → (∃ e sz xs, r = .list (some e) sz xs) → b < w'.heap.size ∧ w.heap.size ≤ b := by
        intro b hb ⟨e, sz, xs, hr⟩
        obtain ⟨i, z, vs, p1, p2, p3, p4, p5, p6, p7, p8, p9⟩ := h6 e sz xs hr
        have q := (p9 b hb).1
        refine ⟨(p8.lt b hb).2, ?_⟩
        simp only [gr] at q
        by_cases hlt : b < w.heap.size
        · simp [hlt] at q
        · omega
      -- without ownership the block of the result is nobody's
      by_cases hr : ∃ e sz xs, r = .list (some e) sz xs
      · have hrel : Rel P gl N g1 s a w' := h.step .none (PosFree.none s) hle (fun b hb => hsame b hb.1) h4 (fun b hb => by
          by_cases hlt : b < w.heap.size
          · omega
          · simp [g1, hlt] at hb; exact (hown b hb hr).1) h.rho
        refine ⟨s', g1, hK, ⟨hle, fun b hb => ?_, h2, hos.1, hos.2⟩, ?_⟩
        · obtain ⟨q1, q2, q3⟩ := hsame b (by rw [hb]; simp); exact ⟨q1.trans hb, q2, q3⟩
        · refine hrel.putO hp hdst (h5.mono (⟨fun _ _ _ h => h, fun _ _ h => by cases h⟩ : GhLe (gr γ' w.heap.size) g1)) ?_
          intro e sz xs hx
          obtain ⟨i, z, vs, p1, p2, p3, p4, p5, p6, p7, p8, p9⟩ := h6 e sz xs hx
          refine ⟨i, z, vs, p1, p2, p3, p4, p5, p6, p7, p8, fun b hb => ?_⟩
          have q := hown b hb hr
          exact ⟨by simp [g1, show ¬ b < w.heap.size by omega, hb], (p9 b hb).2⟩
      · let g2 : Gh := ⟨γ', fun b => if b < w.heap.size then g.Ω b else .none, g.ρ⟩
        have hle2 : GhLe g g2 := ⟨h1, fun _ _ h => h⟩
        have hsame2 : ∀ b, g.Ω b ≠ .none → g2.Ω b = g.Ω b ∧ w'.heap[b]? = w.heap[b]? ∧ ∀ o, g2.γ b o = g.γ b o := fun b hb => by
          have hlt := h.own b hb
          exact ⟨by simp [g2, hlt], (h3 b hlt).1, (h3 b hlt).2⟩
        have hrel : Rel P gl N g2 s a w' := h.step .none (PosFree.none s) hle2 (fun b hb => hsame2 b hb.1) h4 (fun b hb => by
          by_cases hlt : b < w.heap.size
          · omega
          · simp [g2, hlt] at hb) h.rho
        refine ⟨s', g2, hK, ⟨hle2, fun b hb => ?_, h2, hos.1, hos.2⟩, ?_⟩
        · obtain ⟨q1, q2, q3⟩ := hsame2 b (by rw [hb]; simp); exact ⟨q1.trans hb, q2, q3⟩
        · exact hrel.putO hp hdst (h5.mono (⟨fun _ _ _ h => h, fun _ _ h => by cases h⟩ : GhLe (gr γ' w.heap.size) g2)) (.of_ne fun e sz xs hx => hr ⟨e, sz, xs, hx⟩)
    · cases hop
  · cases hop
end
end AM
/-! The abstract machine's calls over the heap, regions and code are the model's. -/
namespace AM
open Go
section
variable {P : Program} {gl : Glob} {D : Dets} {N : Nat} {g g' : Gh} {s s' : St} {a : Act} {w w' : World} {o : Oper}

/-- What a frame holds for itself, seen from outside. -/
def Owner.out : Owner → Owner
  | .none => .none
  | .ob id => .ob id
  | .oc id i => .oc id i
  | _ => .outer
def Gh.out (g : Gh) : Gh := ⟨g.γ, fun b => (g.Ω b).out, g.ρ⟩
theorem out_none {x : Owner} (h : x.out ≠ .none) : x ≠ .none := by rintro rfl; exact h rfl

theorem Rel.heapOnly (h : Rel P gl N g s a w) : Rel P gl 0 g.out (heapSt s.heap) noAct w := by
  refine ⟨.nil, rfl, rfl, fun t e he => by simp [heapSt, Env.get] at he, fun id ob hob => ?_, h.gam, fun b hb => h.own b (out_none hb), h.glob, h.rho⟩
  exact (h.heap id ob hob).kept (g' := g.out) (w' := w) (K := fun o => (∃ i, o = .ob i) ∨ ∃ i j, o = .oc i j) ⟨fun _ _ _ h => h, fun _ _ h => h⟩
    (fun b hb => ⟨by rcases hb with ⟨i, hb⟩ | ⟨i, j, hb⟩ <;> simp [Gh.out, hb, Owner.out], rfl, fun _ => rfl⟩) (fun i => .inl ⟨i, rfl⟩) (fun i => .inr ⟨_, i, rfl⟩)

/-- The heap alone, over owners that agree for it. -/
theorem Rel.heapOver (h : Rel P gl N g s a w) (Ω : Nat → Owner) (hO : ∀ b, (∃ id, g.Ω b = .ob id) ∨ (∃ id i, g.Ω b = .oc id i) → Ω b = g.Ω b) (hb : ∀ b, Ω b ≠ .none → b < w.heap.size) :
    Rel P gl 0 ⟨g.γ, Ω, g.ρ⟩ (heapSt s.heap) noAct w := by
  refine ⟨.nil, rfl, rfl, fun t e he => by simp [heapSt, Env.get] at he, fun id ob hob => ?_, h.gam, hb, h.glob, h.rho⟩
  refine (h.heap id ob hob).kept (g' := ⟨g.γ, Ω, g.ρ⟩) (w' := w) (K := fun o => (∃ i, o = .ob i) ∨ ∃ i j, o = .oc i j) ⟨fun _ _ _ h => h, fun _ _ h => h⟩ (fun b hb => ⟨hO b ?_, rfl, fun _ => rfl⟩) (fun i => .inl ⟨i, rfl⟩) (fun i => .inr ⟨id, i, rfl⟩)
  exact hb

/-- A call over the heap; some blocks that are nobody's may be handed over. -/
theorem callT_wp' {d : Option Nat} {f : Nat} {xs : List AV} {vs : List Value} {K : St → Prop} {Q : Exit → Act → World → Prop} (h : Rel P gl N g s a w) (hd : chkDstO N o d = true)
    (hr : (execOp a.eval o).run P w = .ok (.enter f vs.toArray) w) (Ω : Nat → Owner) (hΩ : ∀ b, g.Ω b ≠ .none → Ω b = (g.Ω b).out) (hΩ' : ∀ b, Ω b ≠ .none → b < w.heap.size)
    (hv : VRs ⟨g.γ, Ω, g.ρ⟩ xs vs) (hn : ∀ (i : Nat) x v, xs[i]? = some x → vs[i]? = some v → OwnR P ⟨g.γ, Ω, g.ρ⟩ w (.var i) x v)
    (hC : CallT P gl f xs s.heap fun r H' => match ({ s with heap := H' } : St).putO d r with | some s' => K s' | none => False) : o.wp P a w (Post P gl N g w K) Q := by
  unfold Oper.wp
  rw [hr]
  have hout : ∀ b, (g.Ω b).out = .outer → Ω b = .outer := fun b hb => by rw [hΩ b (fun e => by rw [e] at hb; cases hb), hb]
  have hheap := h.heapOver Ω (fun b hb => by
    rcases hb with ⟨id, hb⟩ | ⟨id, i, hb⟩ <;> rw [hΩ b (by rw [hb]; simp), hb] <;> rfl) hΩ'
  refine (hC.2 ⟨g.γ, Ω, g.ρ⟩ w vs hheap hv hn).mono fun e w' hpost => ?_
  obtain ⟨v, r, H', g', rfl, hK, hle, hrel, hvr, hor⟩ := hpost
  split at hK
  · rename_i s' hs'
    let g1 : Gh := ⟨g'.γ, fun b => if (g.Ω b).out = .outer then g.Ω b else if g'.Ω b = .var 0 then .var (d.getD 0) else g'.Ω b, g'.ρ⟩
    have hle1 : GhLe g g1 := ⟨hle.γ, hle.ρ⟩
    have hle2 : GhLe g' g1 := ⟨fun _ _ _ h => h, fun _ _ h => h⟩
    have hloc : ∀ b, (g.Ω b).out = .outer → g1.Ω b = g.Ω b ∧ w'.heap[b]? = w.heap[b]? ∧ ∀ o, g1.γ b o = g.γ b o := fun b hb => by
      obtain ⟨q1, q2, q3⟩ := hle.outer b (hout b hb)
      exact ⟨by simp [g1, hb], q2, q3⟩
    have hk : Kept g w g1 w' fun o => o.out = .outer := fun b hb => hloc b hb
    have hR : Rel P gl N g1 { s with heap := H' } a w' := by
      refine ⟨h.sorted, h.size, h.defers, fun t e he => (h.env t e he).kept hle1 hk rfl rfl (fun _ => rfl), fun id ob hob => ?_, hrel.gam, fun b hb => ?_, fun n x hx => hrel.glob n x hx, hrel.rho⟩
      · have h1 := hrel.heap id ob hob
        have hk2 : Kept g' w' g1 w' fun o => (∃ i, o = .ob i) ∨ ∃ i j, o = .oc i j := fun b hb => by
          have hno : (g.Ω b).out ≠ .outer := fun e => by
            have := (hle.outer b (hout b e)).1
            rcases hb with ⟨i, hb⟩ | ⟨i, j, hb⟩ <;> rw [this] at hb <;> cases hb
          refine ⟨?_, rfl, fun _ => rfl⟩
          rcases hb with ⟨i, hb⟩ | ⟨i, j, hb⟩ <;> simp [g1, hno, hb]
        exact h1.kept hle2 hk2 (fun i => .inl ⟨i, rfl⟩) (fun i => .inr ⟨id, i, rfl⟩)
      · by_cases e : (g.Ω b).out = .outer
        · simp [g1, e] at hb
          have := h.own b hb
          have := hle.size; omega
        · simp only [g1, e, if_false] at hb
          by_cases e2 : g'.Ω b = .var 0
          · exact hrel.own b (by rw [e2]; simp)
          · simp [e2] at hb; exact hrel.own b hb
    refine ⟨s', g1, hK, ⟨hle1, fun b hb => ?_, hle.size, hle.os, hle.out⟩, ?_⟩
    · obtain ⟨q1, q2, q3⟩ := hloc b (by rw [hb]; rfl); exact ⟨q1.trans hb, q2, q3⟩
    · refine hR.putO hs' hd (hvr.mono hle2) fun e sz xs hx => ?_
      obtain ⟨j, z, us, m1, m2, m3, m4, m5, m6, m7, m8, m9⟩ := hor e sz xs hx
      refine ⟨j, z, us, m1, m2, m3, m4, m5, m6, m7, m8, fun b hb => ⟨?_, (m9 b hb).2⟩⟩
      have q := (m9 b hb).1
      have hno : (g.Ω b).out ≠ .outer := fun e => by have := (hle.outer b (hout b e)).1; rw [this] at q; cases q
      simp [g1, hno, q]
  · exact hK.elim
theorem callT_wp {d : Option Nat} {f : Nat} {xs : List AV} {vs : List Value} {K : St → Prop} {Q : Exit → Act → World → Prop} (h : Rel P gl N g s a w) (hd : chkDstO N o d = true)
    (hr : (execOp a.eval o).run P w = .ok (.enter f vs.toArray) w) (hv : VRs g xs vs) (hn : ∀ x ∈ xs, NotOwn x)
    (hC : CallT P gl f xs s.heap fun r H' => match ({ s with heap := H' } : St).putO d r with | some s' => K s' | none => False) : o.wp P a w (Post P gl N g w K) Q :=
  callT_wp' h hd hr (fun b => (g.Ω b).out) (fun _ _ => rfl) (fun b hb => h.own b (out_none hb)) (VRs.mono (g := g) (g' := ⟨g.γ, fun b => (g.Ω b).out, g.ρ⟩) ⟨fun _ _ _ h => h, fun _ _ h => h⟩ hv) (fun _ x _ hx _ => (hn x (List.mem_of_getElem? hx)).ownR) hC
theorem notOwn_all {us : List AV} : ∀ x ∈ us.map AV.noOwn, NotOwn x := notOwn_map

theorem callI_wp {d : Option Nat} {f : Nat} {xs : List Opd} {K : St → Prop} {Q : Exit → Act → World → Prop} (h : Rel P gl N g s a w)
    (hc : chkOp P N o (.callI d f xs) = true) (hX : opX P gl D s K (.callI d f xs)) : o.wp P a w (Post P gl N g w K) Q := by
  simp only [opX] at hX
  split at hX
  · rename_i us he
    simp only [chkOp, Bool.and_eq_true] at hc
    obtain ⟨⟨hdst, hcal⟩, hop⟩ := hc
    split at hop
    · rename_i c ho
      split at hop
      · rename_i f' hcl
        simp only [Bool.and_eq_true, beq_iff_eq] at hop
        obtain ⟨rfl, hxs⟩ := hop
        have hargs := (evOs_sound h hxs he).noOwn
        have hrun : (execOp a.eval o).run P w = .ok (.enter f' (c.args.toList.map a.eval).toArray) w := by
          have e : (List.map a.eval c.args.toList).toArray = c.args.map a.eval := by apply Array.ext'; simp
          simp only [execOp, ho, resolve, hcl, Act.eval, Deferred.ofValue, Sem.run_bind, Sem.run_pure, Result.andThen_ok, invoke]
          rw [run_callFunc hcal]
          simp only [Result.ok.injEq, Next.enter.injEq, true_and, and_true]
          rw [← e]; simp
        exact callT_wp h hdst hrun hargs notOwn_all hX.1
      · cases hop
    · cases hop
  · exact hX.elim

theorem callR_wp {d : Option Nat} {f : Nat} {xs : List Opd} {K : St → Prop} {Q : Exit → Act → World → Prop} (h : Rel P gl N g s a w)
    (hc : chkOp P N o (.callR d f xs) = true) (hX : opX P gl D s K (.callR d f xs)) : o.wp P a w (Post P gl N g w K) Q := by
  refine callI_wp (D := D) (d := d) (f := f) (xs := xs) h hc ?_
  simp only [opX] at hX ⊢
  split at hX
  · exact hX.mono fun r H hh => hh.2
  · exact hX
theorem callG_wp {d : Option Nat} {f u : Nat} {xs : List Opd} {K : St → Prop} {Q : Exit → Act → World → Prop} (h : Rel P gl N g s a w)
    (hc : chkOp P N o (.callG d f u xs) = true) (hX : opX P gl D s K (.callG d f u xs)) : o.wp P a w (Post P gl N g w K) Q := by
  simp only [chkOp, Bool.and_eq_true] at hc
  obtain ⟨⟨hdst, hcal⟩, hop⟩ := hc
  split at hop
  · rename_i c ho
    split at hop
    · rename_i f' hcl
      simp only [Bool.and_eq_true, beq_iff_eq] at hop
      obtain ⟨rfl, hxs⟩ := hop
      have hrun : (execOp a.eval o).run P w = .ok (.enter f' (c.args.toList.map a.eval).toArray) w := by
        have e : (List.map a.eval c.args.toList).toArray = c.args.map a.eval := by apply Array.ext'; simp
        simp only [execOp, ho, resolve, hcl, Act.eval, Deferred.ofValue, Sem.run_bind, Sem.run_pure, Result.andThen_ok, invoke]
        rw [run_callFunc hcal]
        simp only [Result.ok.injEq, Next.enter.injEq, true_and, and_true]
        rw [← e]; simp
      generalize c.args.toList = ys at hxs hrun
      cases ys with
      | nil => simp [chkOpds] at hxs
      | cons y ys =>
        simp only [chkOpds, List.length_cons, List.zip_cons_cons, List.all_cons, Bool.and_eq_true, beq_iff_eq] at hxs
        obtain ⟨hl, hy, hrest⟩ := hxs
        have hy' : y = .tmp u := by
          unfold chkOpd at hy; split at hy <;> simp_all
        subst hy'
        have hxs' : chkOpds ys xs = true := by simp only [chkOpds, Bool.and_eq_true, beq_iff_eq]; exact ⟨by omega, hrest⟩
        simp only [opX] at hX
        split at hX
        · rename_i e sz zs us hu he
          obtain ⟨v, p1, p2, p3⟩ := h.env _ _ hu
          have hev : a.eval (.tmp u) = v := by simp [Act.eval, p1]
          have hargs := (evOs_sound h hxs' he).noOwn
          obtain ⟨h3, h4⟩ := h.strip hu
          rw [List.map_cons, hev] at hrun
          -- the block that is handed over is nobody's for a while
          let gN : Gh := ⟨g.γ, fun b => if v.ownBlock = some b then .none else g.Ω b, g.ρ⟩
          have hvb : ∀ b, v.ownBlock = some b → g.Ω b = .var u ∧ b < w.heap.size := fun b hb => by
            obtain ⟨i, z, vs, m1, m2, m3, m4, m5, m6, m6', m7, m8⟩ := p3 e sz zs rfl
            exact ⟨(m8 b hb).1, (m7.lt b hb).2⟩
          have hleN : GLe g w gN w := ⟨⟨fun _ _ _ h => h, fun _ _ h => h⟩, fun b hb => ⟨by
            have : v.ownBlock ≠ some b := fun e => by rw [(hvb b e).1] at hb; cases hb
            simp [gN, this, hb], rfl, fun _ => rfl⟩, Nat.le_refl _, rfl, rfl⟩
          have hN : Rel P gl N gN { s with env := s.env.ins u (.v (.list none sz zs)) } a w := by
            refine h4.step (.var u) (strip_free _ _ _ _) hleN.toGhLe (fun b hb => ⟨?_, rfl, fun _ => rfl⟩) h4.gam (fun b hb => ?_) h4.rho
            · have : v.ownBlock ≠ some b := fun e => hb.2 (hvb b e).1
              simp [gN, this]
            · by_cases e : v.ownBlock = some b
              · exact (hvb b e).2
              · simp [gN, e] at hb; exact h.own b hb
          let Ω : Nat → Owner := fun b => if v.ownBlock = some b then .var 0 else (g.Ω b).out
          have hpost : o.wp P a w (Post P gl N gN w K) Q := by
            refine callT_wp' hN hdst hrun Ω (fun b hb => ?_) (fun b hb => ?_) ?_ ?_ hX.1
            · by_cases e : v.ownBlock = some b
              · simp [gN, e] at hb
              · simp [Ω, gN, e]
            · by_cases e : v.ownBlock = some b
              · exact (hvb b e).2
              · simp only [Ω, e, if_false] at hb; exact h.own b (out_none hb)
            · exact .cons _ _ _ _ (VR.mono (g := g) (g' := ⟨gN.γ, Ω, gN.ρ⟩) ⟨fun _ _ _ h => h, fun _ _ h => h⟩ p2) (VRs.mono (g := g) (g' := ⟨gN.γ, Ω, gN.ρ⟩) ⟨fun _ _ _ h => h, fun _ _ h => h⟩ hargs)
            · intro i x v' hx hv'
              cases i with
              | zero =>
                simp at hx hv'; subst hx hv'
                intro e' sz' zs' hz
                obtain ⟨i, z, vs, m1, m2, m3, m4, m5, m6, m6', m7, m8⟩ := p3 e' sz' zs' hz
                exact ⟨i, z, vs, m1, m2, m3, m4, m5, m6, m6', m7, fun b hb => ⟨by simp [Ω, hb], (m8 b hb).2⟩⟩
              | succ i =>
                simp only [List.getElem?_cons_succ] at hx
                exact (notOwn_map x (List.mem_of_getElem? hx)).ownR
          exact Oper.wp_mono (fun a' w' ⟨s', g', q1, q2, q3⟩ => ⟨s', g', q1, hleN.trans q2, q3⟩) hpost
        · rename_i x us hno hu he
          obtain ⟨v, p1, p2, p3⟩ := h.env _ _ hu
          have hev : a.eval (.tmp u) = v := by simp [Act.eval, p1]
          have hargs := (evOs_sound h hxs' he).noOwn
          rw [List.map_cons, hev] at hrun
          exact callT_wp h hdst hrun (.cons _ _ _ _ p2.noOwn hargs) (fun y hy => by
            rcases List.mem_cons.1 hy with rfl | hy
            · exact NotOwn.noOwn _
            · exact notOwn_map y hy) hX.1
        · exact hX.elim
    · cases hop
  · cases hop

theorem VR.fn_inv {f : Nat} {cs : List AV} {v : Value} (h : VR g (.fn f cs) v) : ∃ ws, v = .func (.func f) #[] ws.toArray ∧ VRs g cs ws := by
  cases h with
  | pure _ _ h => cases h
  | fn _ _ ws h => exact ⟨ws, rfl, h⟩

theorem VRs.append' {xs ys : List AV} {us vs : List Value} (h : VRs g xs us) (h' : VRs g ys vs) : VRs g (xs ++ ys) (us ++ vs) := h.append h'
theorem callV_wp {d : Option Nat} {x : Opd} {xs : List Opd} {K : St → Prop} {Q : Exit → Act → World → Prop} (h : Rel P gl N g s a w)
    (hc : chkOp P N o (.callV d x xs) = true) (hX : opX P gl D s K (.callV d x xs)) : o.wp P a w (Post P gl N g w K) Q := by
  simp only [opX] at hX
  split at hX
  · rename_i f caps us hx he
    simp only [chkOp, Bool.and_eq_true] at hc
    obtain ⟨hdst, hop⟩ := hc
    split at hop
    · rename_i c ho
      split at hop
      · rename_i y hcl
        simp only [Bool.and_eq_true] at hop
        obtain ⟨hy, hxs⟩ := hop
        have hargs := (evOs_sound h hxs he).noOwn
        obtain ⟨ws, hv, hws⟩ := (evO_sound h hy hx).fn_inv
        have hrun : (execOp a.eval o).run P w = .ok (.enter f (c.args.toList.map a.eval ++ ws).toArray) w := by
          have e : (List.map a.eval c.args.toList).toArray = c.args.map a.eval := by apply Array.ext'; simp
          simp only [execOp, ho, resolve, hcl, hv, Deferred.ofValue, Sem.run_bind, Sem.run_pure, Result.andThen_ok, invoke]
          rw [run_callFunc hX.1.1]
          simp only [Result.ok.injEq, Next.enter.injEq, true_and, and_true]
          rw [← e]; simp
        refine callT_wp h hdst hrun (hargs.append hws.noOwn) (fun x hx => ?_) hX.1
        rcases List.mem_append.1 hx with hx | hx
        · exact notOwn_all x hx
        · exact notOwn_all x hx
      · cases hop
    · cases hop
  · exact hX.elim
end
end AM
/-! The abstract machine's code is the model's: regions in a given order, branches, loops. -/
namespace AM
open Go
section
variable {P : Program} {gl : Glob} {D : Dets} {N : Nat} {g g' : Gh} {s s' : St} {a : Act} {w w' : World} {o : Oper}

theorem opX_wp {so : SOp} {K : St → Prop} {Q : Exit → Act → World → Prop} (h : Rel P gl N g s a w) (hc : chkOp P N o so = true) (hX : opX P gl D s K so) : o.wp P a w (Post P gl N g w K) Q := by
  have hgen : ∀ so', so' = so → (match ev gl s so' with | some s' => K s' | none => False) → o.wp P a w (Post P gl N g w K) Q := by
    rintro _ rfl hX
    split at hX
    · rename_i s' he
      exact (ev_sim h hc he).wp hX
    · exact hX.elim
  cases so <;> first
    | exact hgen _ rfl hX
    | skip
  case callP d f xs =>
    simp only [opX] at hX
    split at hX
    · rename_i us he
      obtain ⟨h1, h2⟩ := hX
      split at h2
      · rename_i r hr
        obtain ⟨h2, h3⟩ := h2
        split at h3
        · rename_i s' hp
          exact det_wp h hc he h1 h2 hp h3
        · exact h3.elim
      · exact h2.elim
    · exact hX.elim
  case callI d f xs => exact callI_wp h hc hX
  case callV d x xs => exact callV_wp h hc hX
  case callR d f xs => exact callR_wp h hc hX
  case callG d f u xs => exact callG_wp h hc hX
  case nxt d it =>
    simp only [opX] at hX
    simp only [chkOp, chkNxt, Bool.and_eq_true] at hc
    obtain ⟨hd, hop⟩ := hc
    split at hop
    · rename_i it' ho
      have hd' := hd
      simp only [dstIs, Bool.and_eq_true, beq_iff_eq, decide_eq_true_eq] at hd'
      split at hX
      · rename_i id m since seen es hcd
        obtain ⟨x, hx, hcd⟩ := bind_some hcd
        rcases nxt_run h ho hop hx hcd with ⟨rfl, hr⟩ | ⟨e, he, w', v, hr, hle, hv, hrel, _⟩
        · simp only at hX
          split at hX
          · rename_i s' hs'
            unfold Oper.wp
            rw [hr]
            refine ⟨s', g, hX, .refl _ _, ?_⟩
            rw [hd'.1]
            exact h.put hs' hd'.2 (.tup _ [.bool false] (.cons _ _ _ _ (.pure _ _ (.bool _)) .nil)) (.of_ne fun _ _ _ h => by simp at h)
          · exact hX.elim
        · cases es with
          | nil => simp at he
          | cons e0 es =>
            simp only at hX
            have := hX e he
            split at this
            · rename_i s' hs'
              unfold Oper.wp
              rw [hr]
              refine ⟨s', g, this, hle, ?_⟩
              rw [hd'.1]
              exact hrel.put hs' hd'.2 hv (.of_ne fun _ _ _ h => by simp at h)
            · exact this.elim
      · exact hX.elim
    · cases hop

/-- What holds of an operation and of what stands for it. -/
def chk1 (P : Program) (N : Nat) (ops : Array Oper) (o : Oper) (it : It) : Bool := chkGuard ops o it && chkDst N o it.o && chkOp P N o it.o

theorem guard_sound (h : Rel P gl N g s a w) {ops : Array Oper} {it : It} {b : Bool} (hc : chkGuard ops o it = true) (hg : guardV s.env it.g = some b) :
    Region.wanted o (yielded ops a.tmps) = b := by
  unfold chkGuard at hc
  split at hc
  · rename_i h1 h2
    rw [h2] at hg
    simp [guardV] at hg
    simp [Region.wanted, h1, hg]
  · rename_i j want t want' h1 h2
    simp only [Bool.and_eq_true, beq_iff_eq] at hc
    obtain ⟨rfl, hj⟩ := hc
    rw [h2] at hg
    simp only [guardV] at hg
    split at hg
    · rename_i b' hb
      simp at hg
      obtain ⟨v, hv1, hv2, _⟩ := h.env _ _ hb
      have : v = .bool b' := by
        cases hv2 with
        | pure _ _ hp => cases hp; rfl
      subst this
      simp only [Region.wanted, h1, yielded, hj, Option.bind_some, hv1]
      rw [← hg]
      cases b' <;> cases want <;> rfl
    · rename_i hb
      simp at hg
      obtain ⟨v, hv1, hv2, _⟩ := h.env _ _ hb
      have : v = .tuple #[] := by
        cases hv2 with
        | pure _ _ hp => cases hp
        | tup _ ws hws => cases hws; rfl
      subst this
      simp only [Region.wanted, h1, yielded, hj, Option.bind_some, hv1]
      subst hg; cases want <;> rfl
    · cases hg
  · cases hc

theorem runR_wp {ops : Array Oper} {its : List It} {K : St → Prop} {Q : Exit → Act → World → Prop} {g0 : Gh} {w0 : World}
    (hQ : ∀ s' g' a' w', K s' → GLe g0 w0 g' w' → Rel P gl N g' s' a' w' → Q .normal a' w') :
    ∀ (l : List Nat), (∀ i ∈ l, ∃ o it, ops[i]? = some o ∧ its[i]? = some it ∧ chk1 P N ops o it = true) →
      ∀ s g a w, Rel P gl N g s a w → GLe g0 w0 g w → runR P gl D (l.filterMap (its[·]?)) s K → wpOps P ops Q l a w := by
  intro l
  induction l with
  | nil => intro _ s g a w h hle hr; exact hQ s g a w hr hle h
  | cons i rest ih =>
    intro hl s g a w h hle hr
    obtain ⟨o, it, ho, hit, hc⟩ := hl i (by simp)
    simp only [chk1, Bool.and_eq_true] at hc
    obtain ⟨⟨hc1, hc2⟩, hc3⟩ := hc
    have ih' := ih fun i hi => hl i (by simp [hi])
    simp only [List.filterMap_cons, hit, runR] at hr
    simp only [wpOps, ho]
    split at hr
    · rename_i hgd
      rw [guard_sound h hc1 hgd]
      simp only [if_true]
      refine .inl (Oper.wp_mono ?_ (opX_wp h hc3 hr))
      rintro a1 w1 ⟨s1, g1, hk, hle1, h1⟩
      exact ih' s1 g1 a1 w1 h1 (hle.trans hle1) hk
    · rename_i hgd
      rw [guard_sound h hc1 hgd]
      simp only [Bool.false_eq_true, if_false]
      split at hr
      · rename_i d hd
        simp only [chkDst, hd, Bool.and_eq_true, beq_iff_eq, decide_eq_true_eq] at hc2
        rw [hc2.1]
        split at hr
        · rename_i s1 hs1
          exact ih' s1 g _ w (h.put hs1 hc2.2 (.tup _ _ .nil) (.of_ne fun _ _ _ h => by simp at h)) hle hr
        · exact hr.elim
      · rename_i hd
        simp only [chkDst, hd, beq_iff_eq] at hc2
        rw [hc2]
        exact ih' s g a w h hle hr
    · exact hr.elim

/-- The world's count of draws is nothing to the relation. -/
theorem Rel.drawn (h : Rel P gl N g s a w) : Rel P gl N g s a { w with drawn := w.drawn + 1 } :=
  h.later (K := fun _ => True) (g' := g) (w' := { w with drawn := w.drawn + 1 }) ⟨fun _ _ _ h => h, fun _ _ h => h⟩ (fun _ _ => ⟨rfl, rfl, fun _ => rfl⟩) (fun _ _ => trivial) (fun b off v hv => h.gam b off v hv) (fun b hb => h.own b hb) h.rho
theorem GLe.drawn {g0 : Gh} {w0 : World} (h : GLe g0 w0 g w) : GLe g0 w0 g { w with drawn := w.drawn + 1 } :=
  ⟨⟨h.γ, h.ρ⟩, h.outer, h.size, h.os, h.out⟩

theorem chkIts_spec {ops : Array Oper} : ∀ {os : List Oper} {its : List It}, chkIts P N ops os its = true → os.length = its.length ∧ ∀ (i : Nat) o it, os[i]? = some o → its[i]? = some it → chk1 P N ops o it = true
  | [], [], _ => ⟨rfl, by simp⟩
  | [], _ :: _, h => by simp [chkIts] at h
  | _ :: _, [], h => by simp [chkIts] at h
  | o :: os, it :: its, h => by
    simp only [chkIts, Bool.and_eq_true] at h
    obtain ⟨h1, h2⟩ := chkIts_spec h.2
    refine ⟨by simp [h1], fun i o' it' ho hi => ?_⟩
    cases i with
    | zero => simp at ho hi; subst ho hi; simp only [chk1, Bool.and_eq_true]; exact h.1
    | succ i => exact h2 i o' it' (by simpa using ho) (by simpa using hi)

theorem filterMap_range' (L : List It) : ∀ (its pre : List It), L = pre ++ its → (List.range' pre.length its.length).filterMap (L[·]?) = its
  | [], pre, _ => rfl
  | it :: its, pre, h => by
    have h1 : L[pre.length]? = some it := by simp [h]
    have h2 := filterMap_range' L its (pre ++ [it]) (by simp [h])
    simp only [List.length_append, List.length_cons, List.length_nil, Nat.zero_add] at h2
    simp only [List.length_cons, List.range'_succ, List.filterMap_cons, h1, h2]
theorem filterMap_range (its : List It) : (List.range its.length).filterMap (its[·]?) = its := by
  have := filterMap_range' its its [] rfl
  rw [List.range_eq_range']
  exact this
end
end AM
