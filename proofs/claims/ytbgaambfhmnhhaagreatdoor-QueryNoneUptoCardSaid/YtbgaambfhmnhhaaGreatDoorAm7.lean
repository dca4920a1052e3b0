/- An abstract machine for the program of the seat, and what of the given program it does, part 8 of 16. Conditions: none. -/
import Derived.Test.YtbgaambfhmnhhaaGreatDoorAm6
import Derived.Lib.UnsafeStr
/-! The simulation of clones, of strings over bytes, of functions without a body. -/
namespace AM
open Go
section
variable {P : Program} {gl : Glob} {N : Nat} {g g' : Gh} {s s' : St} {a : Act} {w w' : World} {o : Oper}

def zeroBnd : Option Operand → Bool
  | some (.const (.int _ 0)) => true
  | _ => false
theorem zeroBnd_spec {x : Option Operand} (h : zeroBnd x = true) : ∃ k, x = some (.const (.int k 0)) := by
  unfold zeroBnd at h
  split at h
  · exact ⟨_, rfl⟩
  · cases h
def chkClo (P : Program) (N : Nat) (o : Oper) (d : Nat) (x : Opd) (sz : Nat) : Bool := dstIs N o d &&
  (match o.op with
   | .slice t x' lo hi mx => chkOpd x' x && sliceOk P t sz && (lo.isNone || zeroBnd lo) && zeroBnd hi && zeroBnd mx
   | _ => false)
theorem run_zero_bound {k : IntKind} {y : Nat} {code : BoundsCode} : (Instr.sliceBound (.int k 0) y code).run P w = .ok 0 w := by
  simp [Instr.sliceBound, asIntOf]
theorem run_slice_clo {t e : TypeId} {f : TypeInfo} {base : Option Addr} {len cap : Nat} {lo : Option Value} {k' k'' : IntKind} (hl : lo = none ∨ ∃ k, lo = some (.int k 0)) (hu : P.underlying t = some (.slice e)) (hf : P.info? e = some f) :
    (Instr.sliceAt t (.slice base len cap) lo (some (.int k' 0)) (some (.int k'' 0))).run P w = .ok (.slice base 0 0) w := by
  rcases hl with rfl | ⟨k, rfl⟩ <;>
    simp [Instr.sliceAt, Instr.slice, run_underlying hu, Instr.sliceBounds, run_zero_bound, Go.sizeOf, typeInfo, hf]
theorem sliceOk_spec {t sz : Nat} (h : sliceOk P t sz = true) : ∃ e f, P.underlying t = some (.slice e) ∧ P.info? e = some f ∧ f.size = sz := by
  unfold sliceOk at h
  split at h
  · rename_i e hu
    split at h
    · rename_i f hf
      exact ⟨e, f, hu, hf, by simpa using h⟩
    · cases h
  · cases h
theorem notOwn_nilc (sz : Nat) : NotOwn (.nilc sz) := fun _ _ _ h => by simp at h
theorem sim_clo {d sz : Nat} {x : Opd} (h : Rel P gl N g s a w) (hc : chkClo P N o d x sz = true) (he : ev gl s (.clo d x sz) = some s') : Sim1 P gl N o g a w s' := by
  simp only [chkClo, Bool.and_eq_true] at hc
  obtain ⟨hd, hop⟩ := hc
  split at hop
  · rename_i t x' lo hi mx ho
    simp only [Bool.and_eq_true, Bool.or_eq_true] at hop
    obtain ⟨⟨⟨⟨hx, hk⟩, hlo⟩, hhi⟩, hmx⟩ := hop
    obtain ⟨e, f, hu, hf, _⟩ := sliceOk_spec hk
    obtain ⟨k1, rfl⟩ := zeroBnd_spec hhi
    obtain ⟨k2, rfl⟩ := zeroBnd_spec hmx
    have hl : lo.map a.eval = none ∨ ∃ k, lo.map a.eval = some (.int k 0) := by
      rcases hlo with hlo | hlo
      · left; cases lo <;> simp_all
      · right; obtain ⟨k, rfl⟩ := zeroBnd_spec hlo; exact ⟨k, rfl⟩
    have hrun : ∀ base len cap, a.eval x' = .slice base len cap → (execOp a.eval o).run P w = .ok (.value (.slice base 0 0)) w := fun base len cap hv => by
      have e0 : ∀ k, a.eval (.const (.int k 0)) = .int k 0 := fun _ => rfl
      simp only [execOp, ho, hv, Option.map_some, e0, Sem.run_bind, run_slice_clo hl hu hf, Result.andThen_ok, Sem.run_pure]
    simp only [ev] at he
    split at he
    · rename_i own sz' xs e1
      split at he
      · obtain ⟨base, cap, q1, _⟩ := (evO_sound h hx e1).list_inv
        exact .value h hd he (hrun _ _ _ q1) (.nilc _ _) (notOwn_nilc _)
      · cases he
    · rename_i sz' e1
      split at he
      · have q1 := (evO_sound h hx e1).nils_inv
        exact .value h hd he (hrun _ _ _ q1) (.nilc _ _) (notOwn_nilc _)
      · cases he
    · cases he
  · cases hop
theorem VR.nilc_inv {sz : Nat} {v : Value} (h : VR g (.nilc sz) v) : ∃ base, v = .slice base 0 0 := by
  cases h with
  | pure _ _ h => cases h
  | nilc _ base => exact ⟨base, rfl⟩

/-- An append to a slice without room. -/
theorem run_appc {t ty e : TypeId} {i : TypeInfo} {z : Value} (hu : P.underlying t = some (.slice e)) (hi : P.info? e = some i) (hz : i.zero = some z) (hzs : z.cells.size = i.size)
    (base : Option Addr) {ad : Addr} {m c : Nat} {news : List Value} (hl : news.length = m * i.size)
    (hnews : ∀ j u, news[j]? = some u → w.cell? (ad.add j) = some u) (hm : 0 < m) (h63 : m ≤ M) (hb : i.bytes ≤ 128) :
    ∃ v' w', (Builtin.append_ #[t, t] ty #[.slice base 0 0, .slice (some ad) m c]).run P w = .ok v' w' ∧ w'.ownsRow 0 e i.size v' m news ∧
      v'.ownBlock = some w.heap.size ∧ w.heap.size < w'.heap.size ∧ (∀ k, k < w.heap.size → w'.heap[k]? = w.heap[k]?) ∧ ((w'.os, w'.tape) = (w.os, w.tape) ∧ w'.output = w.output) := by
  unfold M at h63
  have hbytes : m * i.bytes ≤ 140737488355328 := by
    calc m * i.bytes ≤ 1099511627776 * 128 := Nat.mul_le_mul (by omega) hb
      _ = 140737488355328 := by decide
  have hmax : m ≤ maxLen := by unfold maxLen; omega
  have grown : (w.drew.alloc (.cells (#[] ++ news.toArray ++ Builtin.zeroCells z.cells (grownCap w m 0 e - m)) e)).ownsRow 0 e i.size
        (.slice (some ⟨w.heap.size, 0, none⟩) m (grownCap w m 0 e)) m news := by
    have hge := grownCap_ge w m 0 e
    have hcm : grownCap w m 0 e ≤ maxLen := grownCap_le_maxLen w m 0 e hmax
    refine ⟨hl, .inr ⟨w.heap.size, _, _, rfl, Nat.zero_le _, heap_alloc_new w.drew _, hge, hcm, ?_, ?_⟩⟩
    · simp only [Array.empty_append, Array.size_append, List.size_toArray, size_zeroCells, hzs, hl, ← Nat.add_mul]
      congr 1; omega
    · simp only [Array.empty_append, Array.toList_append]
      rw [← hl]
      exact List.take_left
  have hend : ∀ k, k < w.heap.size → (w.drew.alloc (.cells (#[] ++ news.toArray ++ Builtin.zeroCells z.cells (grownCap w m 0 e - m)) e)).heap[k]? = w.heap[k]? := fun k hk => heap_alloc_old w.drew _ (h := hk)
  cases base with
  | none =>
    have hr := run_append_nil (P := P) w t ty e i z hu hi hz ad m c news hl hnews hm (by omega) (by omega)
    rw [show (news.toArray ++ Builtin.zeroCells z.cells (grownCap w m 0 e - m)) = (#[] ++ news.toArray ++ Builtin.zeroCells z.cells (grownCap w m 0 e - m)) by simp] at hr
    exact ⟨_, _, hr, grown, rfl, by rw [alloc_size]; show w.heap.size < w.heap.size + 1; omega, hend, rfl, rfl⟩
  | some b =>
    have hr := run_append_grow (P := P) w t ty e i z hu hi hz b 0 0 [] (by simp) (by simp) ad m c news hl hnews (by omega) (by omega) (growslice_fits (by omega) (by simpa using hbytes))
    simp only [Nat.zero_add] at hr
    exact ⟨_, _, hr, grown, rfl, by rw [alloc_size]; show w.heap.size < w.heap.size + 1; omega, hend, rfl, rfl⟩
theorem run_appc_zero {t ty e : TypeId} {i : TypeInfo} (hu : P.underlying t = some (.slice e)) (hi : P.info? e = some i) (base base' : Option Addr) (c : Nat) :
    (Builtin.append_ #[t, t] ty #[.slice base 0 0, .slice base' 0 c]).run P w = .ok (.slice base 0 0) w := by
  cases base <;> cases base' <;> simp [Builtin.append_, run_underlying hu, Go.sizeOf, typeInfo, hi, Builtin.lenOf, Builtin.firstCells, loadCells, loadCellsFrom, storeCells]
def chkAppc (P : Program) (N : Nat) (o : Oper) (d u : Nat) (x : Opd) (e sz : Nat) : Bool := chkApp P N o d u x e sz
theorem sim_appc {d u : Nat} {x : Opd} {e sz : Nat} (h : Rel P gl N g s a w) (hc : chkAppc P N o d u x e sz = true) (he : ev gl s (.appc d u x e sz) = some s') : Sim1 P gl N o g a w s' := by
  simp only [chkAppc, chkApp, Bool.and_eq_true] at hc
  obtain ⟨hd, hop⟩ := hc
  split at hop
  · rename_i u' x' t t' ho
    obtain ⟨cst, hrun⟩ := bcall_run (o := o) ho rfl a.eval
    simp only [Bool.and_eq_true, beq_iff_eq] at hop
    obtain ⟨⟨⟨rfl, rfl⟩, hx⟩, hk⟩ := hop
    obtain ⟨hu, hk⟩ := elemOk_spec hk
    have hd' := hd
    simp only [dstIs, Bool.and_eq_true, beq_iff_eq, decide_eq_true_eq] at hd'
    simp only [ev] at he
    split at he
    · rename_i sz' sz'' ys hs hy
      obtain ⟨y, hy, hyl⟩ := bind_some hy
      split at he
      · rename_i hb
        obtain ⟨rfl, rfl, hM⟩ := hb
        obtain ⟨v, p1, p2, _⟩ := h.env _ _ hs
        obtain ⟨bs, rfl⟩ := p2.nilc_inv
        obtain ⟨i, z, r1, r2, r3, r4, r5, r6⟩ := okElem_spec hk
        obtain ⟨base, cap, q1, q2, q3⟩ := VR.lst_inv (evO_sound h hx hy) hyl
        have hev : a.eval (.tmp u') = .slice bs 0 0 := by simp [Act.eval, p1]
        cases ys with
        | nil =>
          have hr := run_appc_zero (P := P) (w := w) (ty := o.type) hu r1 bs base cap
          simp only at he
          refine .value (v := .slice bs 0 0) h hd he ?_ (.pure _ _ (.list0 _ _ _)) (NotOwn.none _ _)
          rw [hrun]
          simp only [builtin, List.map_cons, List.map_nil, hev, q1, List.length_nil, Sem.run_bind, hr, Result.andThen_ok, Sem.run_pure]
        | cons y0 ys0 =>
          simp only at he
          generalize hys : y0 :: ys0 = ys at he q1 q2 q3 hM
          have hne : ys ≠ [] := by rw [← hys]; simp
          rcases q3 with q3 | ⟨b, off, rfl, q4⟩
          · exact absurd q3 hne
          obtain ⟨rows, m1, m2, m3, m4, m5⟩ := q4.vals
          have hnews : ∀ j u, rows.flatten[j]? = some u → w.cell? ((⟨b, off, none⟩ : Addr).add j) = some u := fun j u hj => by rw [addr_add]; exact h.gam _ _ _ (m5 j u hj)
          have hpos : 0 < ys.length := List.length_pos_iff.2 hne
          obtain ⟨v', w', k1, k2, k3, k4, k5, k0⟩ := run_appc (P := P) (w := w) (ty := o.type) (c := cap) hu r1 r4 (by omega) bs (by rw [m4, r2]) hnews hpos hM r6
          subst r2
          refine app_core (u := u') (rows := rows) (xs := []) (v := .slice none 0 0) h (⟨fun t y ht hy => by simp at ht; subst ht; rw [hs] at hy; simp at hy; subst hy; exact notOwn_nilc _, by simp, by simp, by simp, by simp, by simp⟩) r1 r3 r4 (by omega) r6 (World.ownsRow_nil _ _ _ _)
            (fun b hb => by simp [Value.ownBlock] at hb) (fun _ _ _ _ => .nil _ _ _) m1 m2 (by simpa using hM) (by simpa using k2) (by omega) k0 (.inr ⟨k3, k4, k5⟩) hd' (by simpa using he) ?_
          rw [hrun]
          simp only [builtin, List.map_cons, List.map_nil, hev, q1, Sem.run_bind, k1, Result.andThen_ok, Sem.run_pure]
      · cases he
    · cases he
  · cases hop

def chkSdata (N : Nat) (o : Oper) (d : Nat) (x : Opd) : Bool := dstIs N o d && (match bcall o.op with | some (.unsafeSliceData, [x'], _) => chkOpd x' x | _ => false)
theorem sim_sdata {d : Nat} {x : Opd} (h : Rel P gl N g s a w) (hc : chkSdata N o d x = true) (he : ev gl s (.sdata d x) = some s') : Sim1 P gl N o g a w s' := by
  simp only [chkSdata, Bool.and_eq_true] at hc
  obtain ⟨hd, hop⟩ := hc
  split at hop
  · rename_i x' ts ho
    obtain ⟨cst, hrun⟩ := bcall_run (o := o) ho rfl a.eval
    simp only [ev] at he
    split at he
    · rename_i id off n sz e1
      split at he
      · rename_i hn
        obtain ⟨b, k, cap, q1, q2, q3, q4, q5⟩ := (evO_sound h hop e1).sl_inv
        refine .value h hd he ?_ (.ptr _ _ _ q1) (notOwn_ptr _ _)
        rw [hrun]
        simp only [builtin, List.map_cons, List.map_nil, q5, Sem.run_bind, Lib.run_unsafeSliceData_row w _ _ _ _ _ (show cap ≠ 0 by omega), Result.andThen_ok, Sem.run_pure]
      · cases he
    · rename_i sz e1
      have q := (evO_sound h hop e1).nils_inv
      refine .value h hd he ?_ (.pure _ _ .nilp) (fun _ _ _ h => by simp at h)
      rw [hrun]
      simp only [builtin, List.map_cons, List.map_nil, q, Sem.run_bind, Lib.run_unsafeSliceData_nil, Result.andThen_ok, Sem.run_pure]
    · cases he
  · cases hop

def chkUstr (P : Program) (N : Nat) (o : Oper) (d e : Nat) (x n : Opd) : Bool := dstIs N o d &&
  (match bcall o.op with | some (.unsafeString, [x', n'], [pt, _]) => chkOpd x' x && chkOpd n' n && P.cellsOf e == 1 && (match P.underlying pt with | some (.pointer e') => e' == e | _ => false) | _ => false)
theorem bytesOf_spec : ∀ {cs : List AV} {b : List UInt8} {us : List Value}, bytesOf cs = some b → VRs g cs us → us = b.map fun c => .int .u8 c.toNat
  | [], b, us, h, hv => by simp [bytesOf] at h; subst h; cases hv; rfl
  | c :: cs, b, us, h, hv => by
    cases hv with
    | cons _ _ v vs h1 h2 =>
      unfold bytesOf at h
      split at h
      · rename_i h'; cases h'
      · rename_i n r h'
        simp at h'; obtain ⟨rfl, rfl⟩ := h'
        split at h
        · rename_i hn
          rw [Option.map_eq_some_iff] at h
          obtain ⟨b', hb', rfl⟩ := h
          have e1 := h1.int_inv
          have e2 := bytesOf_spec hb' h2
          subst e1 e2
          simp only [List.map_cons, List.cons.injEq, and_true]
          congr 1
          have : (UInt8.ofNat n.toNat).toNat = n.toNat := by
            rw [UInt8.toNat_ofNat']
            exact Nat.mod_eq_of_lt (by omega)
          rw [this]; omega
        · cases h
      · cases h
theorem freeze_heap {b n : Nat} (h0 : n ≠ 0) (w : World) (k : Nat) (hk : k ≠ b) : (w.freeze ⟨b, 0, none⟩ n).heap[k]? = w.heap[k]? := by
  simp [World.freeze, h0, Array.getElem?_modify, Ne.symm hk]
theorem freeze_size {b n : Nat} (w : World) : (w.freeze ⟨b, 0, none⟩ n).heap.size = w.heap.size := by
  unfold World.freeze; split <;> simp
theorem Rel.dead (h : Rel P gl N g s a w) (id : Nat) : Rel P gl N g { s with heap := s.heap.set id .dead } a w := by
  refine ⟨h.sorted, h.size, h.defers, h.env, fun id' ob hob => ?_, h.gam, h.own, h.glob, fun i b hi => by simpa using h.rho i b hi⟩
  simp only at hob
  rw [List.getElem?_set] at hob
  split at hob
  · split at hob
    · simp at hob; subst hob; trivial
    · cases hob
  · exact h.heap id' ob hob
/-- The block of a dead object is touched. -/
theorem Rel.touch (h : Rel P gl N g s a w) {id b : Nat} (hid : s.heap[id]? = some .dead) (hb : g.ρ id = some b) (ho : g.Ω b = .ob id) (hγ : ∀ off, g.γ b off = none) (hm : ∀ arr n, w.heap[b]? ≠ some (.map arr n)) (hs : w'.heap.size = w.heap.size) (hw : ∀ k, k ≠ b → w'.heap[k]? = w.heap[k]?) (hos : (w'.os, w'.tape) = (w.os, w.tape) ∧ w'.output = w.output) :
    GLe g w g w' ∧ Rel P gl N g s a w' := by
  have hg : GhLe g g := ⟨fun _ _ _ h => h, fun _ _ h => h⟩
  have hk : Kept g w g w' fun o => o ≠ .ob id := fun k hk => ⟨rfl, hw k (fun e => hk (by rw [e, ho])), fun _ => rfl⟩
  refine ⟨⟨hg, fun k hk => ⟨hk, hw k (fun e => by rw [e, ho] at hk; cases hk), fun _ => rfl⟩, by rw [hs]; exact Nat.le_refl _, hos.1, hos.2⟩, ?_⟩
  refine ⟨h.sorted, h.size, h.defers, fun t e he => (h.env t e he).kept hg hk (by simp) (by simp) (by simp), fun id' ob hob => ?_, fun k off v hv => ?_, fun k hk => by rw [hs]; exact h.own k hk, h.glob, h.rho⟩
  · by_cases e : id' = id
    · subst e; rw [hid] at hob; simp at hob; subst hob; trivial
    · exact (h.heap id' ob hob).beside hg hk e hb hm (by simp) (by simp)
  · have hv' := h.gam k off v hv
    have hkb : k ≠ b := by rintro rfl; rw [hγ] at hv; cases hv
    unfold World.cell? at hv' ⊢
    rw [hw k hkb]; exact hv'
theorem sim_ustr {d e : Nat} {x n : Opd} (h : Rel P gl N g s a w) (hc : chkUstr P N o d e x n = true) (he : ev gl s (.ustr d e x n) = some s') : Sim1 P gl N o g a w s' := by
  simp only [chkUstr, Bool.and_eq_true] at hc
  obtain ⟨hd, hop⟩ := hc
  split at hop
  · rename_i x' n' pt it ho
    obtain ⟨cst, hrun⟩ := bcall_run (o := o) ho rfl a.eval
    simp only [Bool.and_eq_true, beq_iff_eq] at hop
    obtain ⟨⟨⟨hx, hn⟩, hce⟩, hpt⟩ := hop
    split at hpt
    · rename_i e' hp
      simp at hpt; subst hpt
      simp only [ev] at he
      split at he
      · rename_i id m e1 e2
        split at he
        · rename_i e0 cs hid
          split at he
          · rename_i hb
            obtain ⟨rfl, h0, h1, h2⟩ := hb
            obtain ⟨l, hl, he⟩ := bind_some he
            obtain ⟨b, hb1, hb2⟩ := (evO_sound h hx e1).ptr_inv
            have hm := (evO_sound h hn e2).int_inv
            obtain ⟨b', k, p1, p1', p2, ⟨arr, p3, p4⟩, p5⟩ := h.heap _ _ hid
            rw [hb1] at p1; simp at p1; subst p1
            obtain ⟨ws, c1, c2, c3, c4⟩ := p2.cells (off := 0) (n := m.toNat)
            simp only [List.drop_zero] at c1 c2
            have hws := bytesOf_spec hl c2
            have hlen : l.length = m.toNat := by
              have := c2.get.1
              rw [hws] at this; simp at this; omega
            have hml : (m : Int) = l.length := by omega
            obtain ⟨arr', ty', z1, z2, z3, z4, _⟩ := p2
            rw [p3] at z1; simp at z1; obtain ⟨rfl, rfl⟩ := z1
            have hcell : ∀ j y, l[j]? = some y → w.cell? ((⟨b, 0, none⟩ : Addr).add j) = some (.int .u8 y.toNat) := fun j y hy => by
              rw [addr_add, Nat.zero_add]
              have := c4 j (.int .u8 y.toNat) (by rw [hws]; simp [hy])
              simpa using this
            have hr := Lib.run_unsafeString_row (P := P) w pt it o.type e0 hp hce b arr.size (by simp [World.shape?, p3]) l (by intro e; subst e; simp at hlen; omega) (by omega) (by unfold M at h2; omega) hcell
            have hn0 : l.length ≠ 0 := by omega
            have hdead := h.dead id
            have hidlt : id < s.heap.length := (List.getElem?_eq_some_iff.1 hid).1
            obtain ⟨t1, t2⟩ := hdead.touch (w' := w.freeze ⟨b, 0, none⟩ l.length) (id := id) (b := b) (by simp [hidlt]) hb1 z3 z4 (by simp [p3]) (freeze_size w) (fun k hk => freeze_heap hn0 w k hk) (by unfold World.freeze; split <;> exact ⟨rfl, rfl⟩)
            simp only [dstIs, Bool.and_eq_true, beq_iff_eq, decide_eq_true_eq] at hd
            refine ⟨.string ⟨l.toArray⟩, _, g, .inl ?_, t1, ?_⟩
            · rw [hrun]
              simp only [builtin, List.map_cons, List.map_nil, hb2, hm, hml, ptrTo, Sem.run_bind, hr, Result.andThen_ok, Sem.run_pure]
            · rw [hd.1]
              exact t2.put he hd.2 (.pure _ _ (.str _ (by omega))) (notOwn_str _).ownR
          · cases he
        · cases he
      · rename_i m e1 e2
        split at he
        · rename_i h0
          subst h0
          have q := (evO_sound h hx e1).nilp_inv
          have hm := (evO_sound h hn e2).int_inv
          refine .value h hd he ?_ (.pure _ _ (.str [] (by simp))) (notOwn_str _)
          rw [hrun]
          simp only [builtin, List.map_cons, List.map_nil, q, hm, Sem.run_bind, Lib.run_unsafeString_none w pt it, Result.andThen_ok, Sem.run_pure]
          rfl
        · cases he
      · cases he
    · cases hpt
  · cases hop

theorem find_noescape {fn : Func} (h : fn.name = "internal/abi.NoEscape") : Extern.find fn = some Extern.AbiNoEscape.same ∧ ((Extern.allNextRows.lookup fn.name).map (· fn.params fn.resultTypes)) = none := by
  have h1 : Extern.allGenericRows.lookup "internal/abi.NoEscape" = none := by kernel_rfl
  have h2 : Extern.allTypedRows.lookup "internal/abi.NoEscape" = none := by kernel_rfl
  have h3 : Extern.allRows.lookup "internal/abi.NoEscape" = some Extern.AbiNoEscape.same := by kernel_rfl
  have h4 : Extern.allNextRows.lookup "internal/abi.NoEscape" = none := by kernel_rfl
  refine ⟨?_, by rw [h, h4]; rfl⟩
  simp only [Extern.find, h, h1, h2, h3]; rfl
theorem find_cmps {fn : Func} (h : fn.name = "internal/bytealg.abigen_runtime_cmpstring") : Extern.find fn = some Extern.BytealgCompare.compare ∧ ((Extern.allNextRows.lookup fn.name).map (· fn.params fn.resultTypes)) = none := by
  have h1 : Extern.allGenericRows.lookup "internal/bytealg.abigen_runtime_cmpstring" = none := by kernel_rfl
  have h2 : Extern.allTypedRows.lookup "internal/bytealg.abigen_runtime_cmpstring" = none := by kernel_rfl
  have h3 : Extern.allRows.lookup "internal/bytealg.abigen_runtime_cmpstring" = some Extern.BytealgCompare.compare := by kernel_rfl
  have h4 : Extern.allNextRows.lookup "internal/bytealg.abigen_runtime_cmpstring" = none := by kernel_rfl
  refine ⟨?_, by rw [h, h4]; rfl⟩
  simp only [Extern.find, h, h1, h2, h3]; rfl
/-- A function without a body, of a given name. -/
def externIs (P : Program) (f : Nat) (nm : String) : Bool := match P.funcs[f]? with
  | some fn => fn.name == nm && fn.body.isNone && (Extern.allNextRows.lookup fn.origin).isNone
  | none => false
theorem run_extern {f : Nat} {nm : String} {args : Array Value} {e : Array Value → Sem Value} (h : externIs P f nm = true) (hn : (nm == "runtime.NumGoroutine") = false)
    (hf : ∀ fn : Func, fn.name = nm → Extern.find fn = some e ∧ ((Extern.allNextRows.lookup fn.name).map (· fn.params fn.resultTypes)) = none) {v : Value} (hv : (e args).run P w = .ok v w) :
    (callFunc f args).run P w = .ok (.value v) w := by
  unfold externIs at h
  split at h
  · rename_i fn h1
    simp only [Bool.and_eq_true, beq_iff_eq, Option.isNone_iff_eq_none] at h
    obtain ⟨⟨h2, h3⟩, h4⟩ := h
    obtain ⟨q1, q2⟩ := hf fn h2
    have hnext : Extern.findNext fn = none := by
      simp only [Extern.findNext, q2, h4]; rfl
    simp only [callFunc, Sem.run_bind, run_program, Result.andThen_ok, h1, h2, hn, Bool.false_eq_true, if_false]
    simp only [h3, Option.isNone_none, if_true, Sem.run_bind, run_mark, Result.andThen_ok, hnext, q1, hv, Sem.run_pure]
  · cases h
def chkExt1 (P : Program) (N : Nat) (o : Oper) (d f : Nat) (nm : String) (xs : List Opd) : Bool := dstIs N o d && externIs P f nm &&
  (match o.op with | .call c => (match c.callee with | .value (.func f') => f' == f && chkOpds c.args.toList xs | _ => false) | _ => false)
theorem run_ext1 {d f : Nat} {nm : String} {xs : List Opd} {e : Array Value → Sem Value} (hc : chkExt1 P N o d f nm xs = true) (hn : (nm == "runtime.NumGoroutine") = false)
    (hf : ∀ fn : Func, fn.name = nm → Extern.find fn = some e ∧ ((Extern.allNextRows.lookup fn.name).map (· fn.params fn.resultTypes)) = none) :
    dstIs N o d = true ∧ ∃ ys : List Operand, chkOpds ys xs = true ∧ ∀ v, (e (ys.map a.eval).toArray).run P w = .ok v w → (execOp a.eval o).run P w = .ok (.value v) w := by
  simp only [chkExt1, Bool.and_eq_true] at hc
  obtain ⟨⟨hd, hx⟩, hop⟩ := hc
  refine ⟨hd, ?_⟩
  split at hop
  · rename_i c ho
    split at hop
    · rename_i f' hcl
      simp only [Bool.and_eq_true, beq_iff_eq] at hop
      obtain ⟨rfl, hxs⟩ := hop
      refine ⟨c.args.toList, hxs, fun v hv => ?_⟩
      have e' : (List.map a.eval c.args.toList).toArray = c.args.map a.eval := by apply Array.ext'; simp
      simp only [execOp, ho, resolve, hcl, Act.eval, Deferred.ofValue, Sem.run_bind, Sem.run_pure, Result.andThen_ok, invoke]
      refine run_extern (v := v) hx hn hf ?_
      rw [← e'] 
      simpa using hv
    · cases hop
  · cases hop
theorem sim_noesc {d f : Nat} {x : Opd} (h : Rel P gl N g s a w) (hc : chkExt1 P N o d f "internal/abi.NoEscape" [x] = true) (he : ev gl s (.noesc d f x) = some s') : Sim1 P gl N o g a w s' := by
  obtain ⟨hd, ys, hys, hr⟩ := run_ext1 (P := P) (a := a) (w := w) hc (by decide) (fun fn h => find_noescape h)
  obtain ⟨u, h1, h2⟩ := bind_some he
  match ys, hys with
  | [y], hys =>
    have hy : chkOpd y x = true := by simpa [chkOpds] using hys
    exact .value h hd h2 (hr (a.eval y) rfl) (evO_sound h hy h1).noOwn (NotOwn.noOwn u)
  | [], hys => simp [chkOpds] at hys
  | _ :: _ :: _, hys => simp [chkOpds] at hys
theorem cmp_eq : ∀ (x y : List UInt8), Extern.BytealgCompare.cmp ⟨x.toArray⟩ ⟨y.toArray⟩ = cmpB x y := by
  have gen : ∀ (x y : List UInt8) (p q : List UInt8), p.length = q.length → 
      (match ((List.range (min x.length y.length)).find? fun i => (p ++ x)[p.length + i]! != (q ++ y)[q.length + i]!) with
        | some i => if (p ++ x)[p.length + i]! < (q ++ y)[q.length + i]! then (-1 : Int) else 1
        | none => if x.length < y.length then -1 else if x.length > y.length then 1 else 0) = cmpB x y := by
    intro x
    induction x with
    | nil =>
      intro y p q _
      cases y <;> simp [cmpB]
    | cons c x ih =>
      intro y p q hpq
      cases y with
      | nil => simp [cmpB]
      | cons d y =>
        have hmin : min (c :: x).length (d :: y).length = min x.length y.length + 1 := by simp
        rw [hmin, List.range_succ_eq_map, List.find?_cons]
        have e1 : (p ++ c :: x)[p.length + 0]! = c := by simp
        have e2 : (q ++ d :: y)[q.length + 0]! = d := by simp
        rw [e1, e2]
        by_cases hcd : c = d
        · subst hcd
          simp only [bne_self_eq_false, List.find?_map]
          have := ih y (p ++ [c]) (q ++ [c]) (by simp [hpq])
          simp only [List.append_assoc, List.singleton_append, List.length_append, List.length_cons, List.length_nil, Nat.zero_add] at this
          simp only [cmpB, if_true]
          rw [← this]
          have hf : ((fun i => (p ++ c :: x)[p.length + i]! != (q ++ c :: y)[q.length + i]!) ∘ Nat.succ) = fun i => (p ++ c :: x)[p.length + 1 + i]! != (q ++ c :: y)[q.length + 1 + i]! := by
            funext i
            simp only [Function.comp]
            rw [show p.length + i.succ = p.length + 1 + i by omega, show q.length + i.succ = q.length + 1 + i by omega]
          rw [hf]
          cases hfd : (List.range (min x.length y.length)).find? (fun i => (p ++ c :: x)[p.length + 1 + i]! != (q ++ c :: y)[q.length + 1 + i]!) with
          | none => simp
          | some i =>
            simp only [Option.map_some]
            rw [show p.length + i.succ = p.length + 1 + i by omega, show q.length + i.succ = q.length + 1 + i by omega]
        · have : (c != d) = true := by simp [hcd]
          simp only [this, cmpB, hcd, if_false]
          simp only [e1, e2]
  intro x y
  have := gen x y [] [] rfl
  simp only [List.nil_append, List.length_nil, Nat.zero_add] at this
  rw [← this]
  have h1 : ∀ (l : List UInt8) (i : Nat), (ByteArray.mk l.toArray)[i]! = l[i]! := by
    intro l i
    by_cases h : i < l.length
    · rw [getElem!_pos _ _ (by simpa [ByteArray.size] using h), getElem!_pos l i h]; rfl
    · rw [getElem!_neg _ _ (by simpa [ByteArray.size] using h), getElem!_neg l i h]
  simp only [Extern.BytealgCompare.cmp, ByteArray.size, List.size_toArray, h1]
  rfl
theorem sim_cmps {d f : Nat} {x y : Opd} (h : Rel P gl N g s a w) (hc : chkExt1 P N o d f "internal/bytealg.abigen_runtime_cmpstring" [x, y] = true) (he : ev gl s (.cmps d f x y) = some s') : Sim1 P gl N o g a w s' := by
  obtain ⟨hd, ys, hys, hr⟩ := run_ext1 (P := P) (a := a) (w := w) hc (by decide) (fun fn h => find_cmps h)
  simp only [ev] at he
  split at he
  · rename_i l m e1 e2
    match ys, hys with
    | [y1, y2], hys =>
      simp only [chkOpds, List.length_cons, List.length_nil, List.zip_cons_cons, List.zip_nil_right, List.all_cons, List.all_nil, Bool.and_true, Bool.and_eq_true, beq_self_eq_true, true_and] at hys
      obtain ⟨q1, _⟩ := (evO_sound h hys.1 e1).str_inv
      obtain ⟨q2, _⟩ := (evO_sound h hys.2 e2).str_inv
      refine .value h hd he (hr (.int .i64 (cmpB l m)) ?_) (.pure _ _ (.int _ _)) (notOwn_int _ _)
      have e0 : Extern.BytealgCompare.compare #[.string ⟨l.toArray⟩, .string ⟨m.toArray⟩] = (do pure (goInt (Extern.BytealgCompare.cmp (← Extern.Bytes.bytesOf (.string ⟨l.toArray⟩)) (← Extern.Bytes.bytesOf (.string ⟨m.toArray⟩))))) := rfl
      simp only [List.map_cons, List.map_nil, q1, q2, e0, Extern.Bytes.bytesOf, Sem.run_bind, Sem.run_pure, Result.andThen_ok, cmp_eq, goInt]
    | [], hys => simp [chkOpds] at hys
    | [_], hys => simp [chkOpds] at hys
    | _ :: _ :: _ :: _, hys => simp [chkOpds] at hys
  · cases he
end
end AM
/-! The simulation of appends to heap slices. -/
namespace AM
open Go
section
variable {P : Program} {gl : Glob} {N : Nat} {g g' : Gh} {s s' : St} {a : Act} {w w' : World} {o : Oper}

/-- An append of a string's bytes that has something to append: where the result lies. -/
theorem run_appS {t u ty e : TypeId} {i : TypeInfo} {z : Value} (ht : P.underlying t = some (.slice e)) (hu : P.underlying u = some .string) (hi : P.info? e = some i) (hz : i.zero = some z) (hzs : z.cells.size = i.size) (hs1 : i.size = 1)
    {v : Value} {n : Nat} {xs : List Value} (hown : w.ownsRow 0 e i.size v n xs) (s : ByteArray) (hm : 0 < s.size) (h63 : n + s.size ≤ M) (hb : i.bytes ≤ 128) :
    ∃ v' w', (Builtin.append_ #[t, u] ty #[v, .string s]).run P w = .ok v' w' ∧ w'.ownsRow 0 e i.size v' (n + s.size) (xs ++ Lib.strCells s) ∧ w.heap.size ≤ w'.heap.size ∧
      ((v'.ownBlock = v.ownBlock ∧ v.ownBlock ≠ none ∧ ∀ k, some k ≠ v.ownBlock → w'.heap[k]? = w.heap[k]?) ∨ (v'.ownBlock = some w.heap.size ∧ w.heap.size < w'.heap.size ∧ ∀ k, k < w.heap.size → w'.heap[k]? = w.heap[k]?)) ∧ ((w'.os, w'.tape) = (w.os, w.tape) ∧ w'.output = w.output) := by
  unfold M at h63
  have hbytes : (n + s.size) * i.bytes ≤ 140737488355328 := by
    calc (n + s.size) * i.bytes ≤ 1099511627776 * 128 := Nat.mul_le_mul (by omega) hb
      _ = 140737488355328 := by decide
  have hmax : n + s.size ≤ maxLen := by unfold maxLen; omega
  have hl : (Lib.strCells s).length = s.size * i.size := by rw [Lib.strCells_length, hs1, Nat.mul_one]
  have hlen : (xs ++ Lib.strCells s).length = (n + s.size) * i.size := by rw [List.length_append, hown.1, hl, Nat.add_mul]
  have grown : ∀ (old : Nat), old < n + s.size →
      (w.drew.alloc (.cells (xs.toArray ++ (Lib.strCells s).toArray ++ Builtin.zeroCells z.cells (grownCap w (n + s.size) old e - (n + s.size))) e)).ownsRow 0 e i.size
        (.slice (some ⟨w.heap.size, 0, none⟩) (n + s.size) (grownCap w (n + s.size) old e)) (n + s.size) (xs ++ Lib.strCells s) := by
    intro old ho
    have hge := grownCap_ge w (n + s.size) old e
    have hcm : grownCap w (n + s.size) old e ≤ maxLen := grownCap_le_maxLen w (n + s.size) old e hmax
    refine ⟨hlen, .inr ⟨w.heap.size, _, _, rfl, Nat.zero_le _, heap_alloc_new w.drew _, hge, hcm, ?_, ?_⟩⟩
    · simp only [Array.size_append, List.size_toArray, size_zeroCells, hzs, hown.1, hl, ← Nat.add_mul]
      congr 1; omega
    · simp only [Array.toList_append, List.append_assoc]
      rw [← List.append_assoc, ← hlen]
      exact List.take_left
  rcases hown.2 with ⟨rfl, rfl⟩ | ⟨g, cap, cur, rfl, hbg, hg, hnc, hcm, hcs, htake⟩
  · have hx : xs = [] := List.eq_nil_of_length_eq_zero (by simpa using hown.1)
    subst hx
    have hr := run_append_nil_string (P := P) w t u ty e i z ht hu hi hz s hm (by omega) (by simp only [Nat.zero_add] at hbytes; omega)
    have hgr := grown 0 (by omega)
    simp only [Nat.zero_add, List.nil_append, Array.empty_append] at hgr ⊢
    have e1 : (s.data.map fun b => Value.int .u8 b.toNat) = (Lib.strCells s).toArray := by
      apply Array.ext'
      simp [Lib.strCells]
    rw [e1] at hr
    exact ⟨_, _, hr, hgr, by rw [alloc_size]; show w.heap.size ≤ w.heap.size + 1; omega, .inr ⟨rfl, by rw [alloc_size]; show w.heap.size < w.heap.size + 1; omega, fun k hk => heap_alloc_old w.drew _ (h := hk)⟩, rfl, rfl⟩
  · by_cases hroom : n + s.size ≤ cap
    · have hfit : n + s.size ≤ cur.size := by rw [hcs, hs1, Nat.mul_one]; exact hroom
      have hr := Lib.run_append_room_string (P := P) w t u ty e i ht hu hi hs1 g n cap cur hg s hroom hfit
      refine ⟨_, _, hr, ⟨hlen, .inr ⟨g, cap, _, rfl, Nat.zero_le _, setRow_heap w g cur _ e _ hg, hroom, hcm, ?_, ?_⟩⟩, by simp, .inl ⟨rfl, by simp [Value.ownBlock], fun k hk => setRow_other w g k _ (fun e => hk (by simp [Value.ownBlock, e]))⟩, rfl, rfl⟩
      · simp only [List.size_toArray, List.length_append, List.length_take, List.length_drop, Array.length_toList, Lib.strCells_length]
        omega
      · have htake' : cur.toList.take n = xs := by rw [hs1, Nat.mul_one] at htake; exact htake
        rw [htake', ← hlen]
        exact List.take_left
    · have holds : ∀ j u, xs[j]? = some u → w.cell? ((⟨g, 0, none⟩ : Addr).add j) = some u := hown.cells (g := g) rfl
      have hr := Lib.run_append_grow_string (P := P) w t u ty e i z ht hu hi hz ⟨g, 0, none⟩ n cap xs hown.1 holds s (by omega) (by omega) (growslice_fits (by omega) hbytes)
      exact ⟨_, _, hr, grown cap (by omega), by rw [alloc_size]; show w.heap.size ≤ w.heap.size + 1; omega, .inr ⟨rfl, by rw [alloc_size]; show w.heap.size < w.heap.size + 1; omega, fun k hk => heap_alloc_old w.drew _ (h := hk)⟩, rfl, rfl⟩

/-- A block becomes a new heap slice. -/
theorem Rel.rebuf (h : Rel P gl N g s a w) {nb e sz c : Nat} {cs : List AV} {us : List Value} {cur : Array Value}
    (hnb : g.Ω nb = .none ∨ ∃ id, g.Ω nb = .ob id ∧ s.heap[id]? = some .dead ∧ g.ρ id = some nb ∧ ∀ arr n, w.heap[nb]? ≠ some (.map arr n))
    (hγ : ∀ off, g.γ nb off = none) (hw : ∀ k, k ≠ nb → k < w.heap.size → w'.heap[k]? = w.heap[k]?) (hsz : w.heap.size ≤ w'.heap.size) (hos : (w'.os, w'.tape) = (w.os, w.tape) ∧ w'.output = w.output)
    (hblk : w'.heap[nb]? = some (.cells cur e (0, 0))) (hcur : cur.size = c * sz) (htake : ∀ (j : Nat) u, us[j]? = some u → cur[j]? = some u) (hv : VRs g cs us) (h1 : ∀ u ∈ us, u.oneCell' = true) (hn : ∀ x ∈ cs, NotOwn x) (hok : okElem P e sz = true) (hc : c ≤ maxLen) :
    ∃ g', GLe g w g' w' ∧ Rel P gl N g' { s with heap := s.heap ++ [AObj.buf e cs, .dead] } a w' ∧ g'.ρ s.heap.length = some nb ∧ g'.ρ (s.heap.length + 1) = some (c * sz) := by
  have hlt : nb < w'.heap.size := (Array.getElem?_eq_some_iff.1 hblk).1
  let g2 : Gh := { g with Ω := fun k => if k = nb then .ob s.heap.length else g.Ω k, ρ := fun id => if id = s.heap.length then some nb else if id = s.heap.length + 1 then some (c * sz) else g.ρ id }
  have hle : GhLe g g2 := ⟨fun _ _ _ h => h, fun id b hid => by
    have := h.rho id b hid
    simp [g2, show id ≠ s.heap.length by omega, show id ≠ s.heap.length + 1 by omega]; exact hid⟩
  have hsame : ∀ k, k ≠ nb → g.Ω k ≠ .none → g2.Ω k = g.Ω k ∧ w'.heap[k]? = w.heap[k]? ∧ ∀ o, g2.γ k o = g.γ k o := fun k hk hk2 =>
    ⟨by simp [g2, hk], hw k hk (h.own k hk2), fun _ => rfl⟩
  have hout : g.Ω nb ≠ .outer := by rcases hnb with h | ⟨id, h, _⟩ <;> rw [h] <;> simp
  have hkB : Kept g w g2 w' fun o => o ≠ .none ∧ ∀ id, o = .ob id → s.heap[id]? ≠ some .dead := fun k hk => by
    refine hsame k ?_ hk.1
    rintro rfl
    rcases hnb with h | ⟨id, h, h2, _⟩
    · exact hk.1 h
    · exact hk.2 id h h2
  refine ⟨g2, ⟨hle, fun k hk => ?_, hsz, hos.1, hos.2⟩, ?_, by simp [g2], by simp [g2]⟩
  · obtain ⟨q1, q2, q3⟩ := hsame k (fun e => hout (e ▸ hk)) (by rw [hk]; simp)
    exact ⟨q1.trans hk, q2, q3⟩
  · refine ⟨h.sorted, h.size, h.defers, fun t e he => (h.env t e he).kept hle hkB (by simp) (by simp) (by simp), fun id ob hob => ?_, fun k off v hv => ?_, fun k hk => ?_, h.glob, fun id b hid => ?_⟩
    · simp only at hob
      by_cases hidlt : id < s.heap.length
      · rw [List.getElem?_append_left hidlt] at hob
        have hR := h.heap id ob hob
        rcases hnb with hn0 | ⟨id0, q1, q2, q3, q4⟩
        · have hk : Kept g w g2 w' fun o => o ≠ .none := fun k hk => hsame k (by rintro rfl; exact hk hn0) hk
          exact hR.kept hle hk (by simp) (by simp)
        · by_cases e0 : id = id0
          · subst e0; rw [q2] at hob; simp at hob; subst hob; trivial
          · have hk : Kept g w g2 w' fun o => o ≠ .none ∧ o ≠ .ob id0 := fun k hk => hsame k (by rintro rfl; exact hk.2 q1) hk.1
            exact hR.beside hle hk e0 q3 q4 (fun i hi => by simp [hi]) (by simp)
      · rw [List.getElem?_append_right (by omega)] at hob
        by_cases e0 : id = s.heap.length
        · subst e0
          simp at hob; subst hob
          obtain ⟨i, z, r1, r2, r3, r4, r5, r6⟩ := okElem_spec hok
          refine ⟨nb, c * sz, by simp [g2], by simp [g2], ⟨cur, e, hblk, ?_, by simp [g2], hγ, fun j x hx => ?_⟩, ⟨cur, hblk, hcur⟩, i, z, r1, by omega, r4, by omega, r6, by rw [r2]; exact Nat.mul_le_mul_right _ hc⟩
          · have hl := hv.get.1
            rcases Nat.eq_zero_or_pos us.length with hz | hz
            · omega
            · have h9 := htake (us.length - 1) us[us.length - 1] (by simp [show us.length - 1 < us.length by omega])
              have := (Array.getElem?_eq_some_iff.1 h9).1
              omega
          · obtain ⟨v, p1, p2⟩ := hv.get.2 j x hx
            exact ⟨v, htake j v p1, h1 v (List.mem_of_getElem? p1), p2.mono hle, (hn x (List.mem_of_getElem? hx)).ownR⟩
        · obtain ⟨k, hk⟩ : ∃ k, id - s.heap.length = k + 1 := ⟨id - s.heap.length - 1, by omega⟩
          rw [hk] at hob
          cases k with
          | zero => simp at hob; subst hob; trivial
          | succ k => simp at hob
    · have hv' := h.gam k off v hv
      have hkb : k ≠ nb := by rintro rfl; have : g.γ k off = some v := hv; rw [hγ] at this; cases this
      have hkl := cell_lt hv'
      unfold World.cell? at hv' ⊢
      rw [hw k hkb hkl]; exact hv'
    · by_cases e0 : k = nb
      · subst e0; exact hlt
      · have : g.Ω k ≠ .none := by simpa [g2, e0] using hk
        have := h.own k this; omega
    · simp only [List.length_append, List.length_cons, List.length_nil]
      by_cases e0 : id = s.heap.length
      · omega
      · by_cases e1 : id = s.heap.length + 1
        · omega
        · simp [g2, e0, e1] at hid; have := h.rho id b hid; omega

def chkApph (P : Program) (N : Nat) (o : Oper) (d e sz : Nat) (sb : Bool) (u x : Opd) : Bool := dstIs N o d &&
  (match bcall o.op with
   | some (.append, [u', x'], [t, t']) => chkOpd u' u && chkOpd x' x && elemOk P t e sz && (if sb = true then strOk P t' && sz == 1 else t == t')
   | _ => false)
theorem PRs.vrs : ∀ {ws : List Value} {cs : List AV}, PRs g.γ cs ws → VRs g cs ws
  | [], _, h => by cases h; exact .nil
  | _ :: _, _, .cons _ _ _ _ _ h2 h3 => .cons _ _ _ _ (.pure _ _ h2) (PRs.vrs h3)
/-- What is appended: its cells. -/
theorem src_cells (h : Rel P gl N g s a w) {sb : Bool} {y : AV} {sz : Nat} {ys : List AV} {v : Value} (hv : VR g y v) (hl : y.lstB sb = some (sz, ys)) :
    ∃ news : List Value, news.length = ys.length * sz ∧ VRs g (ys.map fun v : AV => v.cells.map AV.noOwn).flatten news ∧ (∀ u ∈ news, u.oneCell' = true) ∧
      ((sb = false ∧ ∃ base cap, v = .slice base ys.length cap ∧ (ys = [] ∨ ∃ b off, base = some ⟨b, off, none⟩ ∧ ∀ j u, news[j]? = some u → w.cell? ((⟨b, off, none⟩ : Addr).add j) = some u)) ∨
       (sb = true ∧ ∃ l : List UInt8, v = .string ⟨l.toArray⟩ ∧ sz = 1 ∧ ys.length = l.length ∧ news = Lib.strCells ⟨l.toArray⟩)) := by
  cases sb with
  | true =>
    cases y <;> simp [AV.lstB] at hl
    rename_i l
    obtain ⟨rfl, hlM⟩ := hv.str_inv
    obtain ⟨rfl, rfl⟩ := hl
    refine ⟨Lib.strCells ⟨l.toArray⟩, by rw [Lib.strCells_length]; simp [ByteArray.size], ?_, Lib.strCells_oneCell _, .inr ⟨rfl, l, rfl, rfl, by simp, rfl⟩⟩
    simp only [Lib.strCells]
    clear hv hlM
    induction l with
    | nil => exact .nil
    | cons c l ih => exact .cons _ _ _ _ (.pure _ _ (.int _ _)) ih
  | false =>
    have hl' : y.lst = some (sz, ys) := by cases y <;> exact hl
    obtain ⟨base, cap, q1, q2, q3⟩ := VR.lst_inv hv hl'
    rcases q3 with rfl | ⟨b, off, rfl, q4⟩
    · exact ⟨[], by simp, .nil, by simp, .inl ⟨rfl, base, cap, q1, .inl rfl⟩⟩
    · obtain ⟨rows, m1, m2, m3, m4, m5⟩ := q4.vals
      refine ⟨rows.flatten, m4, ?_, fun u hu => ?_, .inl ⟨rfl, _, cap, q1, .inr ⟨b, off, rfl, fun j u hj => by rw [addr_add]; exact h.gam _ _ _ (m5 j u hj)⟩⟩⟩
      · clear q4 m5 m4 hl hl' hv q1 q2 m3
        induction ys generalizing rows with
        | nil => cases rows with | nil => exact .nil | cons => simp at m1
        | cons y ys ih =>
          cases rows with
          | nil => simp at m1
          | cons r rows =>
            obtain ⟨c1, c2, c3⟩ := m2 0 y r (by simp) (by simp)
            simp only [List.map_cons, List.flatten_cons]
            refine VRs.append (VRs.noOwn ?_) (ih rows (by simpa using m1) fun k x r hx hr => m2 (k + 1) x r (by simpa using hx) (by simpa using hr))
            exact c2.vrs
      · obtain ⟨r, hr, hu'⟩ := List.mem_flatten.1 hu
        exact m3 r hr u hu'
theorem run_app_none {t u ty e : TypeId} {i : TypeInfo} {x : Value} {n c : Nat} {base : Option Addr} (ht : P.underlying t = some (.slice e)) (hu : (∃ e', P.underlying u = some (.slice e')) ∨ P.underlying u = some .string) (hi : P.info? e = some i)
    (hx : (∃ b k, x = .slice b 0 k) ∨ x = .string ⟨#[]⟩) (hn : n ≤ c) (hb : base = none → n = 0 ∧ c = 0) :
    (Builtin.append_ #[t, u] ty #[.slice base n c, x]).run P w = .ok (.slice base n c) w := by
  rcases hu with ⟨e', hu⟩ | hu <;> rcases hx with ⟨b, k, rfl⟩ | rfl <;> cases base <;>
    first
    | (cases b <;> simp [Builtin.append_, run_underlying ht, run_underlying hu, Go.sizeOf, typeInfo, hi, Builtin.lenOf, hn, Builtin.firstCells, loadCells, loadCellsFrom, storeCells]; done)
    | (simp [Builtin.append_, run_underlying ht, run_underlying hu, Go.sizeOf, typeInfo, hi, Builtin.lenOf, hn, Builtin.firstCells, loadCells, storeCells, ByteArray.size]; done)
theorem sim_apph {d e sz : Nat} {sb : Bool} {u x : Opd} (h : Rel P gl N g s a w) (hc : chkApph P N o d e sz sb u x = true) (he : ev gl s (.apph d e sz sb u x) = some s') : Sim1 P gl N o g a w s' := by
  simp only [chkApph, Bool.and_eq_true] at hc
  obtain ⟨hd, hop⟩ := hc
  split at hop
  · rename_i u' x' t t' ho
    obtain ⟨cst, hrun⟩ := bcall_run (o := o) ho rfl a.eval
    simp only [Bool.and_eq_true] at hop
    obtain ⟨⟨⟨hu, hx⟩, hk⟩, htt⟩ := hop
    · obtain ⟨hut, hok⟩ := elemOk_spec hk
      obtain ⟨i, z, hi, r2, r3, r4, r5, r6⟩ := okElem_spec hok
      subst r2
      have hd' := hd
      simp only [dstIs, Bool.and_eq_true, beq_iff_eq, decide_eq_true_eq] at hd'
      have htt' : (sb = true → P.underlying t' = some .string ∧ i.size = 1) ∧ (sb = false → t = t') := by
        cases sb with
        | true => simp at htt; exact ⟨fun _ => ⟨strOk_spec htt.1, htt.2⟩, (fun h => by cases h)⟩
        | false => simp at htt; exact ⟨(fun h => by cases h), fun _ => htt⟩
      -- the run of the append, whatever is appended
      have happ : ∀ {v : Value} {n : Nat} {xs : List Value} {ys : List AV} {news : List Value}, w.ownsRow 0 e i.size v n xs → 0 < ys.length → n + ys.length ≤ M → news.length = ys.length * i.size →
          (∀ q ∈ news, q.oneCell' = true) →
          ((sb = false ∧ ∃ base cap, a.eval x' = .slice base ys.length cap ∧ (ys = [] ∨ ∃ b off, base = some ⟨b, off, none⟩ ∧ ∀ j u, news[j]? = some u → w.cell? ((⟨b, off, none⟩ : Addr).add j) = some u)) ∨
            (sb = true ∧ ∃ l : List UInt8, a.eval x' = .string ⟨l.toArray⟩ ∧ i.size = 1 ∧ ys.length = l.length ∧ news = Lib.strCells ⟨l.toArray⟩)) →
          ∃ v' w', (Builtin.append_ #[t, t'] o.type #[v, a.eval x']).run P w = .ok v' w' ∧ w'.ownsRow 0 e i.size v' (n + ys.length) (xs ++ news) ∧ w.heap.size ≤ w'.heap.size ∧
            ((v'.ownBlock = v.ownBlock ∧ v.ownBlock ≠ none ∧ ∀ k, some k ≠ v.ownBlock → w'.heap[k]? = w.heap[k]?) ∨ (v'.ownBlock = some w.heap.size ∧ w.heap.size < w'.heap.size ∧ ∀ k, k < w.heap.size → w'.heap[k]? = w.heap[k]?)) ∧ ((w'.os, w'.tape) = (w.os, w.tape) ∧ w'.output = w.output) := by
        intro v n xs ys news hown hpos hM hnl hone hsrc
        rcases hsrc with ⟨hsb, base, cap, q1, q3⟩ | ⟨hsb, l, q1, q2, q3, q4⟩
        · have := htt'.2 hsb; subst this
          rcases q3 with rfl | ⟨b, off, rfl, q4⟩
          · simp at hpos
          · rw [q1]
            exact run_app (P := P) (w := w) (ty := o.type) (c := cap) hut hi r4 r5 hown hnl q4 hone hpos hM r6
        · obtain ⟨hs, hs1⟩ := htt'.1 hsb
          have hsl : (ByteArray.mk l.toArray).size = ys.length := by rw [q3]; simp [ByteArray.size]
          have := run_appS (P := P) (w := w) (ty := o.type) hut hs hi r4 r5 hs1 hown ⟨l.toArray⟩ (by omega) (by omega) r6
          rw [q1, q4]
          rw [hsl] at this
          exact this
      have hnil : ∀ {base : Option Addr} {n c : Nat} {ys : List AV}, ys = [] → ((sb = false ∧ ∃ base cap, a.eval x' = .slice base ys.length cap) ∨ (sb = true ∧ ∃ l : List UInt8, a.eval x' = .string ⟨l.toArray⟩ ∧ ys.length = l.length)) → n ≤ c → (base = none → n = 0 ∧ c = 0) →
          (Builtin.append_ #[t, t'] o.type #[.slice base n c, a.eval x']).run P w = .ok (.slice base n c) w := by
        intro base n c ys hys hsrc hnc hb
        subst hys
        rcases hsrc with ⟨hsb, b, k, q⟩ | ⟨hsb, l, q, q2⟩
        · have := htt'.2 hsb; subst this
          exact run_app_none hut (.inl ⟨_, hut⟩) hi (.inl ⟨b, k, by simpa using q⟩) hnc hb
        · have : l = [] := List.eq_nil_of_length_eq_zero (by simpa using q2.symm)
          subst this
          exact run_app_none hut (.inr (htt'.1 hsb).1) hi (.inr (by simpa using q)) hnc hb
      simp only [ev] at he
      split at he
      · rename_i sz0 sz' ys e1 e2
        obtain ⟨y, hy, hyl⟩ := bind_some e2
        split at he
        · rename_i hb
          obtain ⟨rfl, rfl, hM⟩ := hb
          have q := (evO_sound h hu e1).nils_inv
          obtain ⟨news, n1, n2, n3, n4⟩ := src_cells h (evO_sound h hx hy) hyl
          split at he
          · -- nothing is appended
            have hr := hnil (base := none) (n := 0) (c := 0) (ys := []) rfl (by
              rcases n4 with ⟨m1, b, k, m2, _⟩ | ⟨m1, l, m2, _, m4, _⟩
              · exact .inl ⟨m1, b, k, m2⟩
              · exact .inr ⟨m1, l, m2, m4⟩) (by omega) (by simp)
            refine .value h hd he ?_ (.pure _ _ (.nils _)) (fun _ _ _ h => by simp at h)
            rw [hrun]
            simp only [builtin, List.map_cons, List.map_nil, q, Sem.run_bind, hr, Result.andThen_ok, Sem.run_pure]
          · rename_i y0 ys0
            generalize hys : y0 :: ys0 = ys at *
            have hpos : 0 < ys.length := by rw [← hys]; simp
            obtain ⟨v', w', k1, k2, k3, k4, k0⟩ := happ (World.ownsRow_nil w 0 e i.size) hpos (by simpa using hM) n1 n3 (by
              rcases n4 with ⟨m1, b, k, m2, m3⟩ | ⟨m1, l, m2, m3, m4, m5⟩
              · exact .inl ⟨m1, b, k, m2, m3⟩
              · exact .inr ⟨m1, l, m2, m3, m4, m5⟩)
            rcases k4 with ⟨_, k5, _⟩ | ⟨k5, k6, k7⟩
            · exact absurd rfl k5
            · rcases k2.2 with ⟨rfl, _⟩ | ⟨nb, cap, cur, rfl, _, c1, c2, c3, c4, c5⟩
              · simp [Value.ownBlock] at k5
              · simp [Value.ownBlock] at k5; subst k5
                obtain ⟨g', t1, t2, t3, t4⟩ := h.rebuf (w' := w') (nb := w.heap.size) (us := news) (c := cap) (.inl h.onone) h.gnone (fun k hk hlt => k7 k hlt) k3 k0 c1 c4 (fun j u hj => by
                  have : (cur.toList.take ((0 + ys.length) * i.size))[j]? = some u := by rw [c5]; simpa using hj
                  rw [List.getElem?_take] at this
                  split at this
                  · simpa using this
                  · cases this) n2 n3 (fun c hc => by
                  obtain ⟨l, hl, hcl⟩ := List.mem_flatten.1 hc
                  obtain ⟨v, _, rfl⟩ := List.mem_map.1 hl
                  exact notOwn_map c hcl) hok c3
                refine ⟨.slice (some ⟨w.heap.size, 0, none⟩) (0 + ys.length) cap, w', g', .inl ?_, t1, ?_⟩
                · rw [hrun]
                  simp only [builtin, List.map_cons, List.map_nil, q, Sem.run_bind, k1, Result.andThen_ok, Sem.run_pure]
                · rw [hd'.1]
                  simp only [Nat.zero_add]
                  exact t2.put he hd'.2 (.sl _ _ _ _ _ _ cap t3 t4 (by simp) (by omega)) (.of_ne fun _ _ _ h => by simp at h)
        · cases he
      · rename_i id n sz0 sz' ys e1 e2
        obtain ⟨y, hy, hyl⟩ := bind_some e2
        split at he
        · rename_i e' cs hid
          split at he
          · rename_i hb
            obtain ⟨rfl, rfl, rfl, hncs, hM⟩ := hb
            obtain ⟨b, k, cap, q1, q2, q3, q4, q5⟩ := (evO_sound h hu e1).sl_inv
            obtain ⟨news, n1, n2, n3, n4⟩ := src_cells h (evO_sound h hx hy) hyl
            obtain ⟨b', k', p1, p1', p2, ⟨arr, p3, p4⟩, i0, z0, p5, p6, p7, p8, p9, p10⟩ := h.heap _ _ hid
            rw [q1] at p1; simp at p1; subst p1
            rw [q2] at p1'; simp at p1'; subst p1'
            have p5' := p5
            rw [hi] at p5'; simp at p5'; subst p5'
            obtain ⟨ws, c1, c2, c3, c4⟩ := p2.cells (off := 0) (n := n * i.size)
            simp only [List.drop_zero] at c1 c2
            obtain ⟨arr', ty', y1, y2, y3, y4, y5⟩ := p2
            rw [p3] at y1; simp at y1; obtain ⟨rfl, rfl⟩ := y1
            rw [Nat.zero_add] at q3
            have hcap : cap ≤ maxLen := by
              have : cap * i.size ≤ maxLen * i.size := by omega
              exact Nat.le_of_mul_le_mul_right this p6
            have hnk : n * i.size ≤ arr.size := by omega
            have hwsl : ws.length = n * i.size := by
              have := c2.get.1; simp at this; omega
            have hws : arr.toList.take (n * i.size) = ws := by
              apply List.ext_getElem?
              intro j
              rw [List.getElem?_take]
              split
              · rename_i hj
                have hj' : j < ws.length := by omega
                have h1 := c4 j ws[j] (by simp [hj'])
                simp only [World.cell?, p3, Nat.zero_add] at h1
                rw [List.getElem?_eq_getElem hj', Array.getElem?_toList]
                simpa using h1
              · rename_i hj
                rw [List.getElem?_eq_none (by omega)]
            have hown : w.ownsRow 0 e' i.size (.slice (some ⟨b, 0, none⟩) n cap) n ws := ⟨hwsl, .inr ⟨b, cap, arr, rfl, Nat.zero_le _, p3, q4, hcap, by omega, hws⟩⟩
            have hidlt : id < s.heap.length := (List.getElem?_eq_some_iff.1 hid).1
            have hdead := h.dead id
            have hnm : ∀ arr' n', w.heap[b]? ≠ some (.map arr' n') := by simp [p3]
            have hcsn : ∀ x ∈ (cs.take (n * i.size)).map AV.noOwn ++ (ys.map fun v : AV => v.cells.map AV.noOwn).flatten, NotOwn x := fun x hx => by
              rcases List.mem_append.1 hx with hx | hx
              · exact notOwn_map x hx
              · obtain ⟨l, hl, hcl⟩ := List.mem_flatten.1 hx
                obtain ⟨v, _, rfl⟩ := List.mem_map.1 hl
                exact notOwn_map x hcl
            have hall : VRs g ((cs.take (n * i.size)).map AV.noOwn ++ (ys.map fun v : AV => v.cells.map AV.noOwn).flatten) (ws ++ news) := c2.noOwn.append n2
            have hone : ∀ u ∈ ws ++ news, u.oneCell' = true := fun u hu => by
              rcases List.mem_append.1 hu with hu | hu
              · exact c3 u hu
              · exact n3 u hu
            have hlen0 : ({ s with heap := s.heap.set id .dead } : St).heap.length = s.heap.length := by simp
            -- where the result lies
            have hres : ∃ nb cap' w' cur, (Builtin.append_ #[t, t'] o.type #[.slice (some ⟨b, 0, none⟩) n cap, a.eval x']).run P w = .ok (.slice (some ⟨nb, 0, none⟩) (n + ys.length) cap') w' ∧ (nb = b ∨ nb = w.heap.size) ∧ w.heap.size ≤ w'.heap.size ∧ ((w'.os, w'.tape) = (w.os, w.tape) ∧ w'.output = w.output) ∧
                (∀ k, k ≠ nb → k < w.heap.size → w'.heap[k]? = w.heap[k]?) ∧ w'.heap[nb]? = some (.cells cur e' (0, 0)) ∧ n + ys.length ≤ cap' ∧ cap' ≤ maxLen ∧ cur.size = cap' * i.size ∧ ∀ (j : Nat) u, (ws ++ news)[j]? = some u → cur[j]? = some u := by
              by_cases hpos : 0 < ys.length
              · obtain ⟨v', w', k1, k2, k3, k4, k0⟩ := happ hown hpos hM n1 n3 (by
                  rcases n4 with ⟨m1, b, k, m2, m3⟩ | ⟨m1, l, m2, m3, m4, m5⟩
                  · exact .inl ⟨m1, b, k, m2, m3⟩
                  · exact .inr ⟨m1, l, m2, m3, m4, m5⟩)
                rcases k2.2 with ⟨rfl, h0⟩ | ⟨nb, cap', cur, rfl, _, d1, d2, d3, d4, d5⟩
                · omega
                · refine ⟨nb, cap', w', cur, k1, ?_, k3, k0, ?_, d1, d2, d3, d4, fun j u hj => ?_⟩
                  · rcases k4 with ⟨m1, _⟩ | ⟨m1, _⟩
                    · left; simpa [Value.ownBlock] using m1
                    · right; simpa [Value.ownBlock] using m1
                  · intro k hk hlt
                    rcases k4 with ⟨m1, _, m3⟩ | ⟨m1, _, m3⟩
                    · exact m3 k (by rw [← m1]; simpa [Value.ownBlock] using hk)
                    · exact m3 k hlt
                  · rw [← d5] at hj
                    rw [List.getElem?_take] at hj
                    split at hj
                    · simpa using hj
                    · cases hj
              · have h0 : ys = [] := List.eq_nil_of_length_eq_zero (by omega)
                have hr := hnil (base := some ⟨b, 0, none⟩) (n := n) (c := cap) h0 (by
                  rcases n4 with ⟨m1, b, k, m2, _⟩ | ⟨m1, l, m2, _, m4, _⟩
                  · exact .inl ⟨m1, b, k, m2⟩
                  · exact .inr ⟨m1, l, m2, m4⟩) q4 (by simp)
                have hnews : news = [] := List.eq_nil_of_length_eq_zero (by rw [n1, h0]; simp)
                refine ⟨b, cap, w, arr, by rw [hr, h0]; rfl, .inl rfl, Nat.le_refl _, ⟨rfl, rfl⟩, fun _ _ _ => rfl, p3, by rw [h0]; exact q4, hcap, by omega, fun j u hj => ?_⟩
                rw [hnews, List.append_nil, ← hws, List.getElem?_take] at hj
                split at hj
                · simpa using hj
                · cases hj
            obtain ⟨nb, cap', w', cur, k1, k2, k3, k0, k4, k5, k6, k7, k8, k9⟩ := hres
            obtain ⟨g', t1, t2, t3, t4⟩ := hdead.rebuf (w' := w') (nb := nb) (sz := i.size) (us := ws ++ news) (c := cap') (by
              rcases k2 with rfl | rfl
              · exact .inr ⟨id, y3, by simp [hidlt], q1, hnm⟩
              · exact .inl h.onone) (by
              rcases k2 with rfl | rfl
              · exact y4
              · exact h.gnone) k4 k3 k0 k5 k8 k9 hall hone hcsn hok k7
            rw [hlen0] at t3 t4
            refine ⟨.slice (some ⟨nb, 0, none⟩) (n + ys.length) cap', w', g', .inl ?_, t1, ?_⟩
            · rw [hrun]
              simp only [builtin, List.map_cons, List.map_nil, q5, Sem.run_bind, k1, Result.andThen_ok, Sem.run_pure]
            · rw [hd'.1]
              exact t2.put he hd'.2 (.sl _ _ _ _ _ _ cap' t3 t4 (by simp) k6) (.of_ne fun _ _ _ h => by simp at h)
          · cases he
        · cases he
      · cases he
  · cases hop
/-- A copy as a heap slice. -/
theorem sim_appd {d u : Nat} {x : Opd} {e sz : Nat} (h : Rel P gl N g s a w) (hc : chkAppc P N o d u x e sz = true) (he : ev gl s (.appd d u x e sz) = some s') : Sim1 P gl N o g a w s' := by
  simp only [chkAppc, chkApp, Bool.and_eq_true] at hc
  obtain ⟨hd, hop⟩ := hc
  split at hop
  · rename_i u' x' t t' ho
    obtain ⟨cst, hrun⟩ := bcall_run (o := o) ho rfl a.eval
    simp only [Bool.and_eq_true, beq_iff_eq] at hop
    obtain ⟨⟨⟨rfl, rfl⟩, hx⟩, hk⟩ := hop
    obtain ⟨hu, hk⟩ := elemOk_spec hk
    have hd' := hd
    simp only [dstIs, Bool.and_eq_true, beq_iff_eq, decide_eq_true_eq] at hd'
    simp only [ev] at he
    split at he
    · rename_i sz' sz'' ys hs hy
      obtain ⟨y, hy, hyl⟩ := bind_some hy
      split at he
      · rename_i hb
        obtain ⟨rfl, rfl, hM⟩ := hb
        obtain ⟨v, p1, p2, _⟩ := h.env _ _ hs
        obtain ⟨bs, rfl⟩ := p2.nilc_inv
        obtain ⟨i, z, r1, r2, r3, r4, r5, r6⟩ := okElem_spec hk
        obtain ⟨news, n1, n2, n3, n4⟩ := src_cells (sb := false) h (evO_sound h hx hy) hyl
        have hev : a.eval (.tmp u') = .slice bs 0 0 := by simp [Act.eval, p1]
        rcases n4 with ⟨_, base, cap, q1, q3⟩ | ⟨h0, _⟩
        · cases ys with
          | nil =>
            have hr := run_appc_zero (P := P) (w := w) (ty := o.type) hu r1 bs base cap
            simp only at he
            refine .value (v := .slice bs 0 0) h hd he ?_ (.pure _ _ (.list0 _ _ _)) (NotOwn.none _ _)
            rw [hrun]
            simp only [builtin, List.map_cons, List.map_nil, hev, q1, List.length_nil, Sem.run_bind, hr, Result.andThen_ok, Sem.run_pure]
          | cons y0 ys0 =>
            simp only at he
            generalize hys : y0 :: ys0 = ys at *
            have hne : ys ≠ [] := by rw [← hys]; simp
            have hpos : 0 < ys.length := List.length_pos_iff.2 hne
            rcases q3 with q3 | ⟨b, off, rfl, q4⟩
            · exact absurd q3 hne
            subst r2
            obtain ⟨v', w', k1, k2, k3, k4, k5, k0⟩ := run_appc (P := P) (w := w) (ty := o.type) (c := cap) hu r1 r4 (by omega) bs n1 q4 hpos hM r6
            rcases k2.2 with ⟨rfl, _⟩ | ⟨nb, cap', cur, rfl, _, c1, c2, c3, c4, c5⟩
            · simp [Value.ownBlock] at k3
            · simp [Value.ownBlock] at k3; subst k3
              obtain ⟨g', t1, t2, t3, t4⟩ := h.rebuf (w' := w') (nb := w.heap.size) (us := news) (c := cap') (.inl h.onone) h.gnone (fun k hk hlt => k5 k hlt) (by omega) k0 c1 c4 (fun j u hj => by
                have : (cur.toList.take (ys.length * i.size))[j]? = some u := by rw [c5]; exact hj
                rw [List.getElem?_take] at this
                split at this
                · simpa using this
                · cases this) n2 n3 (fun c hc => by
                obtain ⟨l, hl, hcl⟩ := List.mem_flatten.1 hc
                obtain ⟨v, _, rfl⟩ := List.mem_map.1 hl
                exact notOwn_map c hcl) hk c3
              refine ⟨.slice (some ⟨w.heap.size, 0, none⟩) ys.length cap', w', g', .inl ?_, t1, ?_⟩
              · rw [hrun]
                simp only [builtin, List.map_cons, List.map_nil, hev, q1, Sem.run_bind, k1, Result.andThen_ok, Sem.run_pure]
              · rw [hd'.1]
                exact t2.put he hd'.2 (.sl _ _ _ _ _ _ cap' t3 t4 (by simp) c2) (.of_ne fun _ _ _ h => by simp at h)
        · cases h0
      · cases he
    · cases he
  · cases hop
end
end AM
/-! Heap slices become immutable. -/
namespace AM
open Go
section
variable {P : Program} {gl : Glob} {N : Nat} {g g' : Gh} {s s' : St} {a : Act} {w w' : World} {o : Oper}

/-- The block of a dead object goes to somebody, with immutable cells. -/
theorem Rel.reown (h : Rel P gl N g s a w) {id b : Nat} {ws : List Value} {ow : Owner} (hid : s.heap[id]? = some .dead) (hb : g.ρ id = some b) (ho : g.Ω b = .ob id) (hγ : ∀ off, g.γ b off = none) (hm : ∀ arr n, w.heap[b]? ≠ some (.map arr n))
    (hc : ∀ (j : Nat) u, ws[j]? = some u → w.cell? ⟨b, j, none⟩ = some u) : GLe g w (g.app b ws ow) w ∧ Rel P gl N (g.app b ws ow) s a w := by
  have hg : GhLe g (g.app b ws ow) := ⟨fun k off v hv => by
    have : k ≠ b := by rintro rfl; rw [hγ] at hv; cases hv
    simpa [Gh.app, this] using hv, fun _ _ h => h⟩
  have hk : Kept g w (g.app b ws ow) w fun o => o ≠ .ob id := fun k hk => by
    have : k ≠ b := by rintro rfl; exact hk ho
    exact ⟨by simp [Gh.app, this], rfl, fun _ => by simp [Gh.app, this]⟩
  refine ⟨⟨hg, fun k hko => ?_, Nat.le_refl _, rfl, rfl⟩, ?_⟩
  · have : k ≠ b := by rintro rfl; have := ho.symm.trans hko; cases this
    exact ⟨by simpa [Gh.app, this] using hko, rfl, fun _ => by simp [Gh.app, this]⟩
  · refine ⟨h.sorted, h.size, h.defers, fun t e he => (h.env t e he).kept hg hk (by simp) (by simp) (by simp), fun id' ob hob => ?_, fun k off v hv => ?_, fun k hk => ?_, fun n x hx => (h.glob n x hx).mono hg.γ, h.rho⟩
    · by_cases e : id' = id
      · subst e; rw [hid] at hob; simp at hob; subst hob; trivial
      · exact (h.heap id' ob hob).beside hg hk e hb hm (fun i hi => by simp [hi]) (by simp)
    · by_cases e : k = b
      · subst e
        simp only [Gh.app, if_true] at hv
        exact hc off v hv
      · simp only [Gh.app, e, if_false] at hv
        exact h.gam k off v hv
    · by_cases e : k = b
      · subst e; exact h.own k (by rw [ho]; simp)
      · simp only [Gh.app, e, if_false] at hk; exact h.own k hk

/-- What a heap slice holds, when it is plain data. -/
theorem frz_core (h : Rel P gl N g s a w) {id n e sz : Nat} {cs : List AV} {v : Value} (hv : VR g (.sl id 0 n sz) v) (hid : s.heap[id]? = some (.buf e cs)) (hok : okElem P e sz = true) (hn : n * sz ≤ cs.length) (hp : ((cs.take (n * sz)).map AV.noOwn).all AV.pure1 = true) (hM : n ≤ M) (ow : Owner) :
    ∃ g', GLe g w g' w ∧ Rel P gl N g' { s with heap := s.heap.set id .dead } a w ∧ PR g'.γ (.list none sz (chunk sz n ((cs.take (n * sz)).map AV.noOwn))) v ∧
      OwnR P g' w ow (.list (some e) sz (chunk sz n ((cs.take (n * sz)).map AV.noOwn))) v := by
  obtain ⟨b, k, cap, q1, q2, q3, q4, rfl⟩ := hv.sl_inv
  obtain ⟨b', k', p1, p1', p2, ⟨arr, p3, p4⟩, i0, z0, p5, p6, p7, p8, p9, p10⟩ := h.heap _ _ hid
  rw [q1] at p1; simp at p1; subst p1
  rw [q2] at p1'; simp at p1'; subst p1'
  obtain ⟨i, z, r1, r2, r3, r4, r5, r6⟩ := okElem_spec hok
  rw [r1] at p5; simp at p5; subst p5
  obtain ⟨ws, c1, c2, c3, c4⟩ := p2.cells (off := 0) (n := n * sz)
  simp only [List.drop_zero] at c1 c2
  obtain ⟨arr', ty', y1, y2, y3, y4, y5⟩ := p2
  rw [p3] at y1; simp at y1; obtain ⟨rfl, rfl⟩ := y1
  rw [Nat.zero_add] at q3
  have hidlt : id < s.heap.length := (List.getElem?_eq_some_iff.1 hid).1
  have hwsl : ws.length = n * sz := by have := c2.get.1; simp at this; omega
  have hcell : ∀ (j : Nat) u, ws[j]? = some u → w.cell? ⟨b, j, none⟩ = some u := fun j u hu => by simpa using c4 j u hu
  obtain ⟨t1, t2⟩ := (h.dead id).reown (id := id) (b := b) (ws := ws) (ow := ow) (by simp [hidlt]) q1 y3 y4 (by simp [p3]) hcell
  have hprs : PRs (g.app b ws ow).γ ((cs.take (n * sz)).map AV.noOwn) ws := PRs.mono t1.γ (c2.noOwn.pure_prs hp c3)
  have hprc : PRc (g.app b ws ow).γ b 0 ((cs.take (n * sz)).map AV.noOwn) := PRc.of_list hprs fun j u hu => by simp [Gh.app, hu]
  have hlen : ((cs.take (n * sz)).map AV.noOwn).length = n * sz := by simp; omega
  obtain ⟨hr, hl⟩ := chunk_rows r3 n 0 _ hlen hprc
  refine ⟨_, t1, t2, .list_of hl.symm (by omega) (by omega) hr, ?_⟩
  intro e0 sz0 xs hx
  simp only [AV.list.injEq, Option.some.injEq] at hx
  obtain ⟨rfl, rfl, rfl⟩ := hx
  have hcap : cap ≤ maxLen := by
    have : cap * i.size ≤ maxLen * i.size := by rw [r2]; rw [r2] at p10; omega
    exact Nat.le_of_mul_le_mul_right this p6
  have hws : arr.toList.take (n * sz) = ws := by
    apply List.ext_getElem?
    intro j
    rw [List.getElem?_take]
    split
    · rename_i hj
      have hj' : j < ws.length := by omega
      have h1 := c4 j ws[j] (by simp [hj'])
      simp only [World.cell?, p3, Nat.zero_add] at h1
      rw [List.getElem?_eq_getElem hj', Array.getElem?_toList]
      simpa using h1
    · rename_i hj
      rw [List.getElem?_eq_none (by omega)]
  refine ⟨i, z, ws, r1, r2, r3, r4, r5, r6, by omega, ⟨by rw [hl]; exact hwsl, .inr ⟨b, cap, arr, by rw [hl], Nat.zero_le _, p3, by rw [hl]; exact q4, hcap, by omega, by rw [hl]; exact hws⟩⟩, fun b' hb' => ?_⟩
  simp only [Value.ownBlock, Option.some.injEq] at hb'
  subst hb'
  refine ⟨by simp [Gh.app], hr, fun off hoff => ?_⟩
  simp only [Gh.app, if_true]
  rw [List.getElem?_eq_none]; rw [hl] at hoff; omega

/-- ghost: the heap slice in t becomes a list -/
def frzS (s : St) (t e sz : Nat) : Option St := match Env.get s.env t with
  | some (.v (.sl id 0 n sz')) => match s.heap[id]? with
    | some (.buf e' cs) => if e' = e ∧ sz' = sz ∧ n * sz ≤ cs.length ∧ ((cs.take (n * sz)).map AV.noOwn).all AV.pure1 = true ∧ n ≤ M then
        some { env := s.env.ins t (.v (.list (some e) sz (chunk sz n ((cs.take (n * sz)).map AV.noOwn)))), heap := s.heap.set id .dead } else none
    | _ => none
  | some (.v _) => some s
  | _ => none
/-- ghost: the heap slice in a cell of a box becomes a list -/
def frzbS (s : St) (t off e sz : Nat) : Option St := match Env.get s.env t with
  | some (.b bs) => match bs[off]? with
    | some (.sl id 0 n sz') => match s.heap[id]? with
      | some (.buf e' cs) => if e' = e ∧ sz' = sz ∧ n * sz ≤ cs.length ∧ ((cs.take (n * sz)).map AV.noOwn).all AV.pure1 = true ∧ n ≤ M then
          some { env := s.env.ins t (.b (bs.set off (.list none sz (chunk sz n ((cs.take (n * sz)).map AV.noOwn))))), heap := s.heap.set id .dead } else none
      | _ => none
    | some _ => some s
    | none => none
  | _ => none
/-- A value at a temporary is seen otherwise. -/
theorem Rel.reput (h : Rel P gl N g s a w) {t : Nat} {x y : AV} {v : Value} (ht : s.env.get t = some (.v x)) (hv : a.tmps[t]? = some v) (hy : VR g y v) (ho : OwnR P g w (.var t) y v) : Rel P gl N g { s with env := s.env.ins t (.v y) } a w := by
  refine ⟨Env.Sorted.ins h.sorted t _, h.size, h.defers, fun u e he => ?_, h.heap, h.gam, h.own, h.glob, h.rho⟩
  simp only at he ⊢
  rw [Env.get_ins] at he
  split at he
  · rename_i e0; subst e0; simp at he; subst he
    exact ⟨v, hv, hy, ho⟩
  · rename_i e0
    have h1 := h.env u e he
    cases e with
    | v y => exact h1
    | b cs => exact h1
    | a u' off =>
      obtain ⟨⟨cs, hu⟩, p⟩ := h1
      refine ⟨⟨cs, ?_⟩, p⟩
      rw [Env.get_ins]
      have : u' ≠ t := by rintro rfl; rw [ht] at hu; simp at hu
      simp [this, hu]
theorem Rel.frz (h : Rel P gl N g s a w) {t e sz : Nat} (hok : okElem P e sz = true) (he : frzS s t e sz = some s') : ∃ g', GLe g w g' w ∧ Rel P gl N g' s' a w := by
  unfold frzS at he
  split at he
  · rename_i id n sz' ht
    split at he
    · rename_i e' cs hid
      split at he
      · rename_i hb
        obtain ⟨rfl, rfl, hb1, hb2, hb3⟩ := hb
        simp only [Option.some.injEq] at he; subst he
        obtain ⟨v, p1, p2, _⟩ := h.env _ _ ht
        obtain ⟨g', q1, q2, q3, q4⟩ := frz_core h p2 hid hok hb1 hb2 hb3 (.var t)
        exact ⟨g', q1, q2.reput ht p1 (.own _ _ _ _ q3) q4⟩
      · cases he
    · cases he
  · simp at he; subst he; exact ⟨g, .refl _ _, h⟩
  · cases he
/-- A cell of a box is seen otherwise. -/
theorem Rel.recell (h : Rel P gl N g s a w) {t off : Nat} {bs : List AV} {x y : AV} (ht : s.env.get t = some (.b bs)) (hx : bs[off]? = some x) (hy : ∀ v, VR g x v → VR g y v) (hn : NotOwn y) : Rel P gl N g { s with env := s.env.ins t (.b (bs.set off y)) } a w := by
  refine ⟨Env.Sorted.ins h.sorted t _, h.size, h.defers, fun u e he => ?_, h.heap, h.gam, h.own, h.glob, h.rho⟩
  simp only at he ⊢
  rw [Env.get_ins] at he
  split at he
  · rename_i e0; subst e0; simp at he; subst he
    obtain ⟨b, p1, arr, ty, q1, q2, q3, q4, q5⟩ := h.env _ _ ht
    refine ⟨b, p1, arr, ty, q1, by simpa using q2, q3, q4, fun i c hc => ?_⟩
    rw [List.getElem?_set] at hc
    split at hc
    · rename_i e1; subst e1
      split at hc
      · simp at hc; subst hc
        obtain ⟨v, r1, r2, r3, r4⟩ := q5 _ _ hx
        exact ⟨v, r1, r2, hy v r3, hn.ownR⟩
      · cases hc
    · exact q5 i c hc
  · rename_i e0
    have h1 := h.env u e he
    cases e with
    | v y => exact h1
    | b cs => exact h1
    | a u' off =>
      obtain ⟨⟨cs, hu⟩, p⟩ := h1
      refine ⟨?_, p⟩
      rw [Env.get_ins]
      by_cases e1 : u' = t
      · simp [e1]
      · simp [e1, hu]
theorem Rel.frzb (h : Rel P gl N g s a w) {t off e sz : Nat} (hok : okElem P e sz = true) (he : frzbS s t off e sz = some s') : ∃ g', GLe g w g' w ∧ Rel P gl N g' s' a w := by
  unfold frzbS at he
  split at he
  · rename_i bs ht
    split at he
    · rename_i id n sz' hx
      split at he
      · rename_i e' cs hid
        split at he
        · rename_i hb
          obtain ⟨rfl, rfl, hb1, hb2, hb3⟩ := hb
          simp only [Option.some.injEq] at he; subst he
          obtain ⟨b, p1, arr, ty, q1, q2, q3, q4, q5⟩ := h.env _ _ ht
          obtain ⟨v, r1, r2, r3, r4⟩ := q5 _ _ hx
          obtain ⟨g', q1, q2, q3, _⟩ := frz_core h r3 hid hok hb1 hb2 hb3 .junk
          refine ⟨g', q1, q2.recell (s := { s with heap := s.heap.set id .dead }) ht hx (fun v' hv' => ?_) (NotOwn.none _ _)⟩
          have hv1 := r3.mono q1.toGhLe
          obtain ⟨_, _, _, _, _, r9, _⟩ := okElem_spec hok
          obtain ⟨b1, k1, c1, m1, m2, m3, m4, rfl⟩ := hv1.sl_inv
          obtain ⟨b2, k2, c2, n1, n2, n3, n4, rfl⟩ := hv'.sl_inv
          rw [m1] at n1; simp at n1; subst n1
          rw [m2] at n2; simp at n2; subst n2
          have hcc : c1 = c2 := Nat.eq_of_mul_eq_mul_right (show 0 < sz' by omega) (by omega)
          subst hcc
          exact .pure _ _ q3
        · cases he
      · cases he
    · simp at he; subst he; exact ⟨g, .refl _ _, h⟩
    · cases he
  · cases he
end
end AM
