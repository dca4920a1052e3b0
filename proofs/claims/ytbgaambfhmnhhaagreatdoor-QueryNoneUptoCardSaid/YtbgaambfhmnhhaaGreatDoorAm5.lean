/- An abstract machine for the program of the seat, and what of the given program it does, part 6 of 16. Conditions: none. -/
import Derived.Test.YtbgaambfhmnhhaaGreatDoorAm4
import Derived.Maps.Keyed
import Derived.DeepKeys4
/-! The simulation of maps: keys. -/
namespace AM
open Go Go.Maps
section
variable {P : Program} {gl : Glob} {N : Nat} {g g' : Gh} {s s' : St} {a : Act} {w w' : World} {o : Oper} {γ γ' : Gam}

def keyFields (P : Program) : List Nat → List Field → Nat → Bool
  | [], [], _ => true
  | k :: ks, f :: fs, i => f.name != "_" && f.offset == i && P.cellsOf f.type == 1 && (match P.underlying f.type with | some .string => k == 1 | some .bool => k == 2 | _ => false) && keyFields P ks fs (i + 1)
  | _, _, _ => false
/-- Key types whose laws are known, with the kinds of their cells. -/
def mapKeyOk (P : Program) (k : TypeId) (ks : List Nat) : Bool := match P.underlying k with
  | some .string => ks == [1]
  | some (.struct fs) => laidOutB P && decide (k < P.types.size) && P.keyTypeAt 3 k && P.keyType k && ks.length != 1 && P.cellsOf k == ks.length && keyFields P ks fs.toList 0
  | _ => false
theorem mapKeyOk_keyed {k : TypeId} {ks : List Nat} (h : mapKeyOk P k ks = true) : Keyed P k := by
  unfold mapKeyOk at h
  split at h
  · rename_i hu; exact string_keyed hu
  · rename_i fs hu
    simp only [Bool.and_eq_true, decide_eq_true_eq] at h
    exact Keyed.of_law (deep_law_laid h.1.1.1.1.1.1 (by omega) h.1.1.1.1.1.2 h.1.1.1.1.2 (by simp [hu]))
  · cases h
theorem keyFit_str {ks : List Nat} {l : List UInt8} (h : keyFit ks (.str l) = true) : ks = [1] := by simpa [keyFit] using h
theorem keyFit_inv {ks : List Nat} {x : AV} (h : keyFit ks x = true) : (∃ l, x = .str l ∧ ks = [1]) ∨ ∃ cs, x = .agg cs ∧ ks.length ≠ 1 ∧ cs.map knd = ks ∧ ∀ k ∈ ks, k = 1 ∨ k = 2 := by
  cases x <;> simp [keyFit] at h
  · exact .inl ⟨_, rfl, h⟩
  · exact .inr ⟨_, rfl, h.1.1, h.2, h.1.2⟩
theorem knd_str {c : AV} (h : knd c = 1) : ∃ l, c = .str l := by cases c <;> simp [knd] at h; exact ⟨_, rfl⟩
theorem knd_bool {c : AV} (h : knd c = 2) : ∃ b, c = .bool b := by cases c <;> simp [knd] at h; exact ⟨_, rfl⟩
theorem mk_inj {a b : List UInt8} : ((⟨a.toArray⟩ : ByteArray) = ⟨b.toArray⟩) ↔ a = b := by simp
/-- Keys' cells are equal where their values are. -/
theorem eqs_iff : ∀ {ks : List Nat} {xs ys : List AV} {us vs : List Value}, xs.map knd = ks → ys.map knd = ks → (∀ k ∈ ks, k = 1 ∨ k = 2) → PRs γ xs us → PRs γ' ys vs →
    (∃ b, eqs xs ys = some b) ∧ (eqs xs ys = some true ↔ us = vs) ∧ (xs = ys ↔ us = vs) := by
  intro ks
  induction ks with
  | nil =>
    intro xs ys us vs hx hy _ h1 h2
    simp at hx hy; subst hx hy
    cases h1; cases h2
    simp [eqs]
  | cons k ks ih =>
    intro xs ys us vs hx hy hk h1 h2
    cases xs with
    | nil => simp at hx
    | cons x xs =>
      cases ys with
      | nil => simp at hy
      | cons y ys =>
        simp at hx hy
        cases h1 with
        | cons _ _ u us _ p1 p2 =>
          cases h2 with
          | cons _ _ v vs _ q1 q2 =>
            obtain ⟨⟨b, i0⟩, i1, i2⟩ := ih hx.2 hy.2 (fun k hk' => hk k (by simp [hk'])) p2 q2
            rcases hk k (by simp) with rfl | rfl
            · obtain ⟨l, rfl⟩ := knd_str hx.1
              obtain ⟨m, rfl⟩ := knd_str hy.1
              cases p1; cases q1
              refine ⟨⟨_, by simp [eqs, eq1, i0]; rfl⟩, ?_, by simp [i2]⟩
              simp only [eqs, eq1, i0]
              rw [i0] at i1
              simp only [Option.some.injEq] at i1
              simp [i1]
            · obtain ⟨l, rfl⟩ := knd_bool hx.1
              obtain ⟨m, rfl⟩ := knd_bool hy.1
              cases p1; cases q1
              refine ⟨⟨_, by simp [eqs, eq1, i0]; rfl⟩, ?_, by simp [i2]⟩
              simp only [eqs, eq1, i0]
              rw [i0] at i1
              simp only [Option.some.injEq] at i1
              simp [i1]
theorem keyEq_vals {ks : List Nat} {x y : AV} {u v : Value} (hx : keyFit ks x = true) (hy : keyFit ks y = true) (h1 : PR γ x u) (h2 : PR γ' y v) : (keyEq x y = true ↔ u = v) ∧ (x = y ↔ u = v) := by
  rcases keyFit_inv hx with ⟨l, rfl, rfl⟩ | ⟨cs, rfl, h3, h4, h5⟩
  · rcases keyFit_inv hy with ⟨m, rfl, _⟩ | ⟨cs, rfl, h, _⟩
    · cases h1; cases h2
      simp [keyEq]
    · simp at h
  · rcases keyFit_inv hy with ⟨m, rfl, h⟩ | ⟨ds, rfl, q3, q4, _⟩
    · subst h; simp at h3
    · cases h1 with
      | agg _ us p1 =>
        cases h2 with
        | agg _ vs p2 =>
          obtain ⟨⟨b, i0⟩, i1, i2⟩ := eqs_iff h4 q4 h5 p1 p2
          simp only [keyEq, beq_iff_eq, i1, Value.agg.injEq]
          simp [i2]
theorem keyEq_iff {ks : List Nat} {x y : AV} (hx : keyFit ks x = true) (hy : keyFit ks y = true) {u v : Value} (h1 : PR γ x u) (h2 : PR γ' y v) : keyEq x y = true ↔ x = y := by
  rw [(keyEq_vals hx hy h1 h2).1, (keyEq_vals hx hy h1 h2).2]
/-- A key's value needs no memory. -/
theorem VR.key {ks : List Nat} {x : AV} {v : Value} (hx : keyFit ks x = true) (h : VR g x v) : PR γ x v := by
  rcases keyFit_inv hx with ⟨l, rfl, rfl⟩ | ⟨cs, rfl, h3, h4, h5⟩
  · obtain ⟨rfl, hl⟩ := h.str_inv; exact .str _ hl
  · obtain ⟨ws, rfl, h1, h2⟩ := h.agg_inv
    refine .agg _ _ ?_
    subst h4
    clear h3 hx h
    revert h5 h1
    induction ws generalizing cs with
    | nil => intro h1 h5; cases h1; exact .nil
    | cons w ws ih =>
      intro h1 h5
      cases h1 with
      | cons c cs _ _ q1 q2 =>
        refine .cons _ _ _ _ (h2 w (by simp)) ?_ (ih cs (fun x hx => h2 x (by simp [hx])) q2 (fun k hk => h5 k (List.mem_cons_of_mem _ hk)))
        rcases h5 (knd c) (by simp) with hk | hk
        · obtain ⟨l, rfl⟩ := knd_str hk
          obtain ⟨rfl, h⟩ := q1.str_inv; exact .str _ h
        · obtain ⟨l, rfl⟩ := knd_bool hk
          have := q1.bool_inv; subst this; exact .bool _
theorem keyLits_some {n : Nat} {full : List Value} : ∀ (fs : List Field) (ks : List Nat) (i : Nat) (cs : List AV) (ws : List Value), keyFields P ks fs i = true → full.drop i = ws → PRs γ cs ws → cs.map knd = ks →
    ∃ r, (fs.mapM fun f => P.keyLits (n + 1) f.type ((full.drop f.offset).take (P.cellsOf f.type))) = some r := by
  intro fs
  induction fs with
  | nil => intro ks i cs ws h _ _ _; exact ⟨[], by simp⟩
  | cons f fs ih =>
    intro ks i cs ws h hw hp hk
    cases ks with
    | nil => simp [keyFields] at h
    | cons k ks =>
      simp only [keyFields, Bool.and_eq_true, beq_iff_eq] at h
      obtain ⟨⟨⟨⟨h1, h2⟩, h3⟩, h4⟩, h5⟩ := h
      cases cs with
      | nil => simp at hk
      | cons c cs =>
        simp at hk
        cases hp with
        | cons _ _ v ws hv p1 p2 =>
          have hnext : full.drop (i + 1) = ws := by
            rw [← List.drop_drop, hw]; simp
          obtain ⟨r, hr⟩ := ih ks (i + 1) cs ws h5 hnext p2 hk.2
          have hcell : (full.drop f.offset).take (P.cellsOf f.type) = [v] := by rw [h2, h3, hw]; simp
          have : ∃ l, P.keyLits (n + 1) f.type [v] = some l := by
            split at h4
            · rename_i hu
              simp at h4
              obtain ⟨l, rfl⟩ := knd_str (hk.1.trans h4)
              cases p1 with
              | str _ hl =>
                refine ⟨_, by simp only [Program.keyLits, hu]; rw [if_pos]; simp [ByteArray.size]; unfold M at hl; unfold maxLen; omega⟩
            · rename_i hu
              simp at h4
              obtain ⟨l, rfl⟩ := knd_bool (hk.1.trans h4)
              cases p1
              exact ⟨_, by simp only [Program.keyLits, hu]; rfl⟩
            · cases h4
          obtain ⟨l, hl⟩ := this
          refine ⟨l :: r, ?_⟩
          rw [List.mapM_cons, hcell, hl]
          simp only [Option.bind_eq_bind, Option.bind_some, hr]
          rfl
theorem keyFields_names : ∀ {fs : List Field} {ks : List Nat} {i : Nat}, keyFields P ks fs i = true → ∀ f ∈ fs, (f.name != "_") = true
  | [], _, _, _, _, h => by simp at h
  | f :: fs, [], _, h, _, _ => by simp [keyFields] at h
  | f :: fs, k :: ks, i, h, f', hf => by
    simp only [keyFields, Bool.and_eq_true, beq_iff_eq] at h
    rcases List.mem_cons.1 hf with rfl | hf
    · exact h.1.1.1.1
    · exact keyFields_names h.2 f' hf
theorem PRs.len : ∀ {ws : List Value} {cs : List AV}, PRs γ cs ws → ws.length = cs.length
  | [], _, h => by cases h; rfl
  | _ :: _, _, .cons _ _ _ _ _ _ h => by simp [PRs.len h]
/-- What fits reads as a key. -/
theorem keyOf_fit {k : TypeId} {ks : List Nat} {x : AV} {v : Value} (hk : mapKeyOk P k ks = true) (hx : keyFit ks x = true) (h : PR γ x v) : ∃ l, keyOf P k v = some l := by
  unfold mapKeyOk at hk
  split at hk
  · rename_i hu
    simp at hk; subst hk
    rcases keyFit_inv hx with ⟨l, rfl, _⟩ | ⟨cs, rfl, h, _⟩
    · cases h with
      | str _ hl => exact ⟨_, by simp only [keyOf, hu, mapKey]; rw [if_pos]; simp [ByteArray.size]; unfold M at hl; unfold maxLen; omega⟩
    · simp at h
  · rename_i fs hu
    simp only [Bool.and_eq_true, decide_eq_true_eq, beq_iff_eq, bne_iff_ne] at hk
    obtain ⟨⟨⟨⟨⟨⟨_, h2⟩, _⟩, h4⟩, h5⟩, h6⟩, h7⟩ := hk
    rcases keyFit_inv hx with ⟨l, rfl, h'⟩ | ⟨cs, rfl, _, q1, q2⟩
    · subst h'; simp at h5
    · cases h with
      | agg _ ws hp =>
        have hlen : ws.length = ks.length := by
          rw [← q1, List.length_map]; exact hp.len
        obtain ⟨m, hm⟩ : ∃ m, P.types.size = m + 1 := ⟨P.types.size - 1, by have : 0 < P.types.size := Nat.lt_of_le_of_lt (Nat.zero_le _) h2; exact (Nat.succ_pred_eq_of_pos this).symm⟩
        obtain ⟨r, hr⟩ := keyLits_some (P := P) (n := m) (full := ws) fs.toList ks 0 cs ws h7 rfl hp q1
        have hf : (Value.agg ws.toArray).formed P k = true := by simp [Value.formed, hu, hlen, h6]
        have hn : fs.all (·.name != "_") = true := by
          rw [← Array.all_toList, List.all_eq_true]
          exact keyFields_names h7
        refine ⟨_, by
          simp only [keyOf, hu, h4, hf, Bool.and_self, if_true]
          show (P.keyLits (P.types.size + 1) k ws.toArray.toList).map _ = _
          simp only [Program.keyLits, hu]
          rw [if_pos ⟨by rw [hlen, h6], hn⟩, hm, hr]
          rfl⟩
  · cases hk
end
end AM
/-! The simulation of maps: new ones, lookups. -/
namespace AM
open Go Go.Maps
section
variable {P : Program} {gl : Glob} {N : Nat} {g g' : Gh} {s s' : St} {a : Act} {w w' : World} {o : Oper} {γ γ' : Gam}

/-- A new object over a new block. -/
theorem Rel.allocO (h : Rel P gl N g s a w) (x : Obj) (ob : AObj)
    (hob : ∀ g', (∀ b, g'.Ω b = (g.setO w.heap.size (.ob s.heap.length)).Ω b) → GhLe g g' → g'.ρ s.heap.length = some w.heap.size → ObjR P g' (w.alloc x) s.heap.length ob) :
    ∃ g', GLe g w g' (w.alloc x) ∧ Rel P gl N g' { s with heap := s.heap ++ [ob] } a (w.alloc x) ∧ g'.ρ s.heap.length = some w.heap.size := by
  obtain ⟨q1, q2⟩ := h.alloc x (.ob s.heap.length)
  let g2 : Gh := { g.setO w.heap.size (.ob s.heap.length) with ρ := fun id => if id = s.heap.length then some w.heap.size else g.ρ id }
  have hle : GhLe (g.setO w.heap.size (.ob s.heap.length)) g2 := ⟨fun _ _ _ h => h, fun id b hid => by
    have := h.rho id b hid
    simp [g2, show id ≠ s.heap.length by omega]; exact hid⟩
  have hk : ∀ K, Kept (g.setO w.heap.size (.ob s.heap.length)) (w.alloc x) g2 (w.alloc x) K := fun K b _ => ⟨rfl, rfl, fun _ => rfl⟩
  have hall : GLe g w g2 (w.alloc x) := q1.trans ⟨hle, fun b hb => ⟨hb, rfl, fun _ => rfl⟩, Nat.le_refl _, rfl, rfl⟩
  refine ⟨g2, hall, ?_, by simp [g2]⟩
  refine ⟨q2.sorted, q2.size, q2.defers, fun t e he => (q2.env t e he).kept hle (hk fun _ => True) trivial trivial (fun _ => trivial), fun id ob' hob' => ?_, q2.gam, q2.own, q2.glob, fun id b hid => ?_⟩
  · simp only at hob'
    rcases Nat.lt_trichotomy id s.heap.length with hlt | rfl | hgt
    · rw [List.getElem?_append_left hlt] at hob'
      exact (q2.heap id ob' hob').kept hle (hk fun _ => True) (fun _ => trivial) (fun _ => trivial)
    · simp at hob'; subst hob'
      exact hob g2 (fun _ => rfl) hall.toGhLe (by simp [g2])
    · rw [List.getElem?_eq_none (by simp; omega)] at hob'; cases hob'
  · simp only [List.length_append, List.length_singleton]
    by_cases e : id = s.heap.length
    · omega
    · simp [g2, e] at hid; have := h.rho id b hid; omega

theorem notOwn_mapv (id : Nat) : NotOwn (.map id) := fun _ _ _ h => by simp at h
def chkMkmap (N : Nat) (o : Oper) (d : Nat) : Bool := dstIs N o d && (match o.op with | .makeMap _ none => true | _ => false)
theorem run_makeMap {t : TypeId} : (Instr.makeMap t none).run P w = .ok (.map (some w.heap.size)) (w.alloc (.map #[] 0)) := by
  simp [Instr.makeMap, newObj, Sem.run]
theorem sim_mkmap {d : Nat} (h : Rel P gl N g s a w) (hc : chkMkmap N o d = true) (he : ev gl s (.mkmap d) = some s') : Sim1 P gl N o g a w s' := by
  simp only [chkMkmap, Bool.and_eq_true] at hc
  obtain ⟨hd, hop⟩ := hc
  split at hop
  · rename_i t ho
    simp only [ev] at he
    simp only [dstIs, Bool.and_eq_true, beq_iff_eq, decide_eq_true_eq] at hd
    obtain ⟨g', q1, q2, q3⟩ := h.allocO (.map #[] 0) (.map 0 []) (fun g' h1 h2 h3 =>
      ⟨w.heap.size, h3, #[], heap_alloc_new w _, by rw [h1]; simp [Gh.setO], ⟨[], .nil, rfl, by simp⟩, by simp, by simp, by simp, [], by simp⟩)
    refine ⟨.map (some w.heap.size), w.alloc (.map #[] 0), g', .inl ?_, q1, ?_⟩
    · simp only [execOp, ho, Option.map_none, Sem.run_bind, run_makeMap, Result.andThen_ok, Sem.run_pure]
    · rw [hd.1]
      exact q2.put he hd.2 (.map _ _ q3) (notOwn_mapv _).ownR
  · cases hop

/-- What a map's block holds at a key. -/
theorem mapGet_none {es : List (AV × AV)} {x : AV} (h : ∀ e ∈ es, keyEq x e.1 = false) : mapGet es x = none := by
  induction es with
  | nil => rfl
  | cons e r ih =>
    obtain ⟨k, v⟩ := e
    have := h (k, v) (by simp)
    simp only at this
    simp [mapGet, this, ih fun e he => h e (by simp [he])]
theorem mapGet_some {es : List (AV × AV)} {x k v : AV} (he : (k, v) ∈ es) (hk : keyEq x k = true) (hu : ∀ e ∈ es, keyEq x e.1 = true → e.1 = k) (hp : es.Pairwise fun x y => x.1 ≠ y.1) : mapGet es x = some v := by
  induction es with
  | nil => simp at he
  | cons e r ih =>
    obtain ⟨k', v'⟩ := e
    obtain ⟨hp1, hp2⟩ := List.pairwise_cons.1 hp
    simp only [mapGet]
    by_cases h1 : keyEq x k' = true
    · have := hu (k', v') (by simp) h1
      simp only at this; subst this
      rcases List.mem_cons.1 he with h2 | h2
      · simp at h2; simp [h1, h2]
      · exact absurd (rfl : k' = k') (hp1 (k', v) h2)
    · simp only [h1, Bool.false_eq_true, if_false]
      rcases List.mem_cons.1 he with h2 | h2
      · simp at h2; rw [h2.1] at hk; exact absurd hk h1
      · exact ih h2 (fun e he => hu e (by simp [he])) hp2

theorem headFit_all {ks ks' : List Nat} {es : List (AV × AV)} (h : headFit ks es = true) (h' : ∀ e ∈ es, keyFit ks' e.1 = true) : ∀ e ∈ es, keyFit ks e.1 = true := by
  cases es with
  | nil => simp
  | cons e r =>
    obtain ⟨k, v⟩ := e
    have h1 := h' (k, v) (by simp)
    simp only [headFit] at h
    have : ks = ks' := by
      rcases keyFit_inv h with ⟨l, rfl, h2⟩ | ⟨cs, rfl, _, h2, _⟩
      · exact h2.trans (keyFit_str h1).symm
      · rcases keyFit_inv h1 with ⟨l, h, _⟩ | ⟨cs', h, _, h3, _⟩
        · cases h
        · cases h; exact h2.symm.trans h3
    subst this
    exact h'

/-- The entries of a map's block, side by side. -/
structure MapAt (P : Program) (g : Gh) (w : World) (id b n : Nat) (es : List (AV × AV)) (ks : List Nat) (arr : Array MapEntry) (es' : List (AV × AV)) : Prop where
  blk : w.heap[b]? = some (.map arr n)
  own : g.Ω b = .ob id
  perm : es'.Perm es
  len : es'.length = arr.toList.length
  at_ : ∀ (i : Nat) e m, es'[i]? = some e → arr.toList[i]? = some m → EntryR P g w id e m
  born : arr.toList.Pairwise (fun x y => x.born < y.born)
  lt : ∀ m ∈ arr.toList, m.born < n
  uniq : es.Pairwise (fun x y => keyEq x.1 y.1 = false)
  fit : ∀ e ∈ es, keyFit ks e.1 = true
theorem MapR.at {id b n : Nat} {es : List (AV × AV)} {ks : List Nat} (h : MapR P g w id b n es) (hf : headFit ks es = true) : ∃ arr es', MapAt P g w id b n es ks arr es' := by
  obtain ⟨arr, h1, h2, ⟨es', h3, h4, h5⟩, h6, h7, h8, ks', h9⟩ := h
  exact ⟨arr, es', h1, h2, h3, h4, h5, h6, h7, h8, headFit_all hf h9⟩
theorem MapAt.mapR {id b n : Nat} {es es' : List (AV × AV)} {ks : List Nat} {arr : Array MapEntry} (h : MapAt P g w id b n es ks arr es') : MapR P g w id b n es :=
  ⟨arr, h.blk, h.own, ⟨es', h.perm, h.len, h.at_⟩, h.born, h.lt, h.uniq, ks, h.fit⟩
section
variable {id b n : Nat} {es es' : List (AV × AV)} {ks : List Nat} {arr : Array MapEntry}
theorem MapAt.other (h : MapAt P g w id b n es ks arr es') {m : MapEntry} (hm : m ∈ arr.toList) : ∃ (i : Nat) (e : AV × AV), es'[i]? = some e ∧ arr.toList[i]? = some m ∧ e ∈ es ∧ EntryR P g w id e m := by
  obtain ⟨i, hi, hmi⟩ := List.getElem_of_mem hm
  have hl : i < es'.length := by rw [h.len]; exact hi
  have h1 : es'[i]? = some es'[i] := by simp [hl]
  have h2 : arr.toList[i]? = some m := by rw [List.getElem?_eq_getElem hi, hmi]
  exact ⟨i, _, h1, h2, h.perm.mem_iff.1 (List.mem_of_getElem? h1), h.at_ i _ _ h1 h2⟩
theorem MapAt.other' (h : MapAt P g w id b n es ks arr es') {e : AV × AV} (he : e ∈ es) : ∃ (i : Nat) (m : MapEntry), es'[i]? = some e ∧ arr.toList[i]? = some m ∧ EntryR P g w id e m := by
  obtain ⟨i, hi, hei⟩ := List.getElem_of_mem (h.perm.mem_iff.2 he)
  have hl : i < arr.toList.length := by rw [← h.len]; exact hi
  have h1 : es'[i]? = some e := by rw [List.getElem?_eq_getElem hi, hei]
  have h2 : arr.toList[i]? = some arr.toList[i] := List.getElem?_eq_getElem hl
  exact ⟨i, _, h1, h2, h.at_ i _ _ h1 h2⟩
theorem MapAt.ne (h : MapAt P g w id b n es ks arr es') : es.Pairwise fun x y => x.1 ≠ y.1 := by
  refine List.Pairwise.imp_of_mem ?_ h.uniq
  intro x y hx hy hxy e
  obtain ⟨_, m, _, _, q1, _⟩ := h.other' hx
  have := (keyEq_iff (h.fit x hx) (h.fit y hy) (VR.key (γ := g.γ) (h.fit x hx) q1) (VR.key (γ := g.γ) (h.fit y hy) (e ▸ q1))).2 e
  rw [this] at hxy; cases hxy
/-- The entry at a key: on both sides, or on none. -/
theorem MapAt.find (h : MapAt P g w id b n es ks arr es') {kt : TypeId} (hk : mapKeyOk P kt ks = true) {kk : AV} {v : Value} (hf : keyFit ks kk = true) (hv : VR g kk v) :
    (∀ em, (Instr.checkKey em 10000 kt v).run P w = .ok () w) ∧
    (((Instr.findKey kt v arr.toList).run P w = .ok none w ∧ mapGet es kk = none ∧ (∀ e ∈ es, keyEq kk e.1 = false) ∧ ∀ m ∈ arr.toList, m.key ≠ v) ∨
      ∃ (j : Nat) (m : MapEntry) (x : AV), (Instr.findKey kt v arr.toList).run P w = .ok (some (j, m.val)) w ∧ arr.toList[j]? = some m ∧ m.key = v ∧ es'[j]? = some (kk, x) ∧ mapGet es kk = some x ∧ EntryR P g w id (kk, x) m) := by
  have K := mapKeyOk_keyed hk
  have hkey := VR.key (γ := g.γ) hf hv
  obtain ⟨l, hl⟩ := keyOf_fit hk hf hkey
  have hall : ∀ m ∈ arr.toList, ∃ l, keyOf P kt m.key = some l := fun m hm => by
    obtain ⟨i, e, _, _, he, hr⟩ := h.other hm
    exact keyOf_fit hk (h.fit e he) (VR.key (γ := g.γ) (h.fit e he) hr.1)
  refine ⟨fun em => K.check w em hl, ?_⟩
  rcases K.find w hl arr.toList hall with ⟨h1, h2⟩ | ⟨j, m, h1, h2, h3⟩
  · have hne : ∀ e ∈ es, keyEq kk e.1 = false := fun e he => by
      obtain ⟨i, m, _, hm, hr⟩ := h.other' he
      cases hh : keyEq kk e.1 with
      | false => rfl
      | true =>
        have := (keyEq_vals hf (h.fit e he) hkey (VR.key (γ := g.γ) (h.fit e he) hr.1)).1.1 hh
        exact absurd this.symm (h2 m (List.mem_of_getElem? hm))
    exact .inl ⟨h1, mapGet_none hne, hne, h2⟩
  · obtain ⟨i, e, hi, hm, he, hr⟩ := h.other (List.mem_of_getElem? h2)
    have hlj : j < es'.length := by rw [h.len]; exact (List.getElem?_eq_some_iff.1 h2).1
    have hej : es'[j]? = some es'[j] := by simp [hlj]
    have hrj := h.at_ j _ _ hej h2
    have hmem : es'[j] ∈ es := h.perm.mem_iff.1 (List.getElem_mem hlj)
    have hkv := VR.key (γ := g.γ) (h.fit _ hmem) hrj.1
    have heq := (keyEq_vals hf (h.fit _ hmem) hkey hkv).2.2 h3.symm
    refine .inr ⟨j, m, es'[j].2, h1, h2, h3, ?_, ?_, ?_⟩
    · rw [hej, heq]
    · refine mapGet_some (k := kk) (by rw [heq]; exact hmem) ((keyEq_vals hf hf hkey hkey).1.2 rfl) (fun e he hke => ?_) h.ne
      obtain ⟨_, m', _, _, hr'⟩ := h.other' he
      exact ((keyEq_iff hf (h.fit e he) hkey (VR.key (γ := g.γ) (h.fit e he) hr'.1)).1 hke).symm
    · rw [heq]; exact hrj
end

def zeroIs (P : Program) (t : TypeId) (z : AV) : Bool := match P.info? t with
  | some i => (match i.zero with | some v => const v z | none => false)
  | none => false
def chkLook (P : Program) (N : Nat) (o : Oper) (ks : List Nat) (d : Nat) (m k : Opd) (zero : AV) (ok : Bool) : Bool := dstIs N o d &&
  (match o.op with
   | .lookup t m' k' ok' => chkOpd m' m && chkOpd k' k && ok' == ok && (match P.underlying t with | some (.map kt et) => mapKeyOk P kt ks && zeroIs P et zero | _ => false)
   | _ => false)
theorem run_lookup_some {t kt et : TypeId} {b n : Nat} {arr : Array MapEntry} {k x : Value} {j : Nat} {ok : Bool} (hu : P.underlying t = some (.map kt et)) (hb : w.heap[b]? = some (.map arr n))
    (h1 : ∀ em, (Instr.checkKey em 10000 kt k).run P w = .ok () w) (h2 : (Instr.findKey kt k arr.toList).run P w = .ok (some (j, x)) w) :
    (Instr.lookup t (.map (some b)) k ok).run P w = .ok (if ok = true then .tuple #[x, .bool true] else x) w := by
  simp only [Instr.lookup, Sem.run_bind, run_underlying hu, Result.andThen_ok, MapKept.run_getObj_map hb, Sem.run_pure, h1, h2]
theorem run_lookup_none {t kt et : TypeId} {b n : Nat} {arr : Array MapEntry} {k z : Value} {i : TypeInfo} {ok : Bool} (hu : P.underlying t = some (.map kt et)) (hb : w.heap[b]? = some (.map arr n))
    (h1 : ∀ em, (Instr.checkKey em 10000 kt k).run P w = .ok () w) (h2 : (Instr.findKey kt k arr.toList).run P w = .ok none w) (hi : P.info? et = some i) (hz : i.zero = some z) :
    (Instr.lookup t (.map (some b)) k ok).run P w = .ok (if ok = true then .tuple #[z, .bool false] else z) w := by
  simp only [Instr.lookup, Sem.run_bind, run_underlying hu, Result.andThen_ok, MapKept.run_getObj_map hb, Sem.run_pure, h1, h2, zeroValue, typeInfo, run_program, hi, hz]
theorem run_lookup_nil {t kt et : TypeId} {k z : Value} {i : TypeInfo} {ok : Bool} (hu : P.underlying t = some (.map kt et))
    (h1 : ∀ em, (Instr.checkKey em 10000 kt k).run P w = .ok () w) (h2 : (Instr.findKey kt k []).run P w = .ok none w) (hi : P.info? et = some i) (hz : i.zero = some z) :
    (Instr.lookup t (.map none) k ok).run P w = .ok (if ok = true then .tuple #[z, .bool false] else z) w := by
  simp only [Instr.lookup, Sem.run_bind, run_underlying hu, Result.andThen_ok, Sem.run_pure, h1, h2, zeroValue, typeInfo, run_program, hi, hz]
theorem VR.opt {x : AV} {v : Value} {c : Bool} (h : VR g x v) (ok : Bool) : VR g (if ok = true then .tup [x, .bool c] else x) (if ok = true then .tuple #[v, .bool c] else v) := by
  cases ok with
  | false => exact h
  | true => exact .tup _ [v, .bool c] (.cons _ _ _ _ h (.cons _ _ _ _ (.pure _ _ (.bool _)) .nil))
theorem notOwn_opt {x : AV} {c : Bool} (h : NotOwn x) (ok : Bool) : NotOwn (if ok = true then .tup [x, .bool c] else x) := by
  cases ok with
  | false => exact h
  | true => intro e sz xs h; simp at h
theorem const_notOwn {v : Value} {z : AV} (h : const v z = true) : NotOwn z := by
  have := const_sound (γ := fun _ _ => none) h
  intro e sz xs hz
  subst hz; cases this
theorem sim_look {ks : List Nat} {d : Nat} {m k : Opd} {zero : AV} {ok : Bool} (h : Rel P gl N g s a w) (hc : chkLook P N o ks d m k zero ok = true) (he : ev gl s (.look ks d m k zero ok) = some s') : Sim1 P gl N o g a w s' := by
  simp only [chkLook, Bool.and_eq_true] at hc
  obtain ⟨hd, hop⟩ := hc
  split at hop
  · rename_i t m' k' ok' ho
    simp only [Bool.and_eq_true, beq_iff_eq] at hop
    obtain ⟨⟨⟨hm, hk⟩, rfl⟩, hop⟩ := hop
    split at hop
    · rename_i kt et hu
      simp only [Bool.and_eq_true] at hop
      obtain ⟨hkt, hz⟩ := hop
      unfold zeroIs at hz
      split at hz
      · rename_i i hi
        split at hz
        · rename_i zv hzv
          have hzr : VR g zero zv := .pure _ _ (const_sound hz)
          have hzn := const_notOwn hz
          simp only [ev] at he
          split at he
          · rename_i id kk e1 e2
            split at he
            · rename_i nn es hid
              split at he
              · rename_i hf
                simp only [Bool.and_eq_true] at hf
                obtain ⟨b, r1, r2⟩ := h.heap _ _ hid
                obtain ⟨arr, es', A⟩ := r2.at hf.2
                obtain ⟨b', q1, q2⟩ := (evO_sound h hm e1).map_inv
                rw [r1] at q1; simp at q1; subst q1
                have hkv := evO_sound h hk e2
                obtain ⟨hck, hfd⟩ := A.find hkt hf.1 hkv
                rcases hfd with ⟨f1, f2, _⟩ | ⟨j, me, x, f1, f2, f3, f4, f5, f6⟩
                · rw [f2] at he
                  refine .value h hd he ?_ (hzr.opt ok') (notOwn_opt hzn ok')
                  simp only [execOp, ho, q2, Sem.run_bind, run_lookup_none hu A.blk hck f1 hi hzv, Result.andThen_ok, Sem.run_pure]
                · rw [f5] at he
                  refine .value h hd he ?_ (VR.opt (VR.noOwn f6.2.2.1) ok') (notOwn_opt (NotOwn.noOwn _) ok')
                  simp only [execOp, ho, q2, Sem.run_bind, run_lookup_some hu A.blk hck f1, Result.andThen_ok, Sem.run_pure]
              · cases he
            · cases he
          · rename_i kk e1 e2
            split at he
            · rename_i hf
              have q := (evO_sound h hm e1).nilm_inv
              have hkv := evO_sound h hk e2
              have K := mapKeyOk_keyed hkt
              obtain ⟨l, hl⟩ := keyOf_fit hkt hf (VR.key (γ := g.γ) hf hkv)
              refine .value h hd he ?_ (hzr.opt ok') (notOwn_opt hzn ok')
              rcases K.find w hl [] (by simp) with ⟨f1, _⟩ | ⟨j, e, _, f2, _⟩
              · simp only [execOp, ho, q, Sem.run_bind, run_lookup_nil hu (fun em => K.check w em hl) f1 hi hzv, Result.andThen_ok, Sem.run_pure]
              · simp at f2
            · cases he
          · cases he
        · cases hz
      · cases hz
    · cases hop
  · cases hop
end
end AM
/-! The simulation of maps: writes. -/
namespace AM
open Go Go.Maps
section
variable {P : Program} {gl : Glob} {N : Nat} {g g' : Gh} {s s' : St} {a : Act} {w w' : World} {o : Oper} {γ γ' : Gam}

def mapW (w : World) (b : Nat) (arr : Array MapEntry) (n : Nat) : World := { w with heap := w.heap.setIfInBounds b (.map arr n) }
theorem mapW_at {b n n' : Nat} {arr arr' : Array MapEntry} (h : w.heap[b]? = some (.map arr n)) : (mapW w b arr' n').heap[b]? = some (.map arr' n') := by
  have := (Array.getElem?_eq_some_iff.1 h).1
  simp [mapW, this]
theorem mapW_other {b n' k : Nat} {arr' : Array MapEntry} (h : k ≠ b) : (mapW w b arr' n').heap[k]? = w.heap[k]? := by
  simp [mapW, Array.getElem?_setIfInBounds_ne (Ne.symm h)]
theorem mapW_size {b n' : Nat} {arr' : Array MapEntry} : (mapW w b arr' n').heap.size = w.heap.size := by simp [mapW]

/-- An object beside a map that is written. -/
theorem ObjR.besideMap {id id' b n n' : Nat} {o : AObj} {arr arr' : Array MapEntry} (h : ObjR P g w id' o) (hid : id' ≠ id) (hb : g.ρ id = some b) (ho : g.Ω b = .ob id) (hw : w.heap[b]? = some (.map arr n)) (hn : n ≤ n')
    (hsub : n' = n → ∀ m ∈ arr'.toList, ∃ m0 ∈ arr.toList, m0.born = m.born ∧ m0.key = m.key) : ObjR P g (mapW w b arr' n') id' o := by
  have hg : GhLe g g := ⟨fun _ _ _ h => h, fun _ _ h => h⟩
  have hk : Kept g w g (mapW w b arr' n') fun o => o ≠ .ob id := fun k hk => ⟨rfl, mapW_other (fun e => hk (by rw [e, ho])), fun _ => rfl⟩
  cases o with
  | cells cs => obtain ⟨b', p1, p2⟩ := h; exact ⟨b', p1, p2.kept hg hk (by simp [hid]) (by simp)⟩
  | buf e cs =>
    obtain ⟨b', k, p1, p2, p3, ⟨arr, p4, p5⟩, p6⟩ := h
    have q3 : g.Ω b' = .ob id' := p3.choose_spec.choose_spec.2.2.1
    refine ⟨b', k, p1, p2, p3.kept hg hk (by simp [hid]) (by simp), ⟨arr, ?_, p5⟩, p6⟩
    exact (hk b' (by rw [q3]; simp [hid])).2.1.trans p4
  | map n es => obtain ⟨b', p1, p2⟩ := h; exact ⟨b', p1, p2.kept hg hk (by simp [hid]) (by simp)⟩
  | iter m since seen =>
    obtain ⟨b', o, p1, p2, p3, p4⟩ := h
    refine ⟨b', o, p1, (hk b' (by rw [p3]; simp [hid])).2.1.trans p2, p3, ?_⟩
    cases m with
    | none => cases o <;> first | exact p4 | skip
              rename_i mp _ _ _
              cases mp <;> exact p4
    | some mid =>
      cases o <;> try exact p4
      rename_i mp s ss last
      cases mp with
      | none => exact p4
      | some bm =>
        obtain ⟨q1, q2, q3, q4, q5, arr2, n2, q6, q7⟩ := p4
        by_cases hm : mid = id
        · subst hm
          rw [hb] at q1; simp at q1; subst q1
          rw [hw] at q6; simp at q6; obtain ⟨rfl, rfl⟩ := q6
          refine ⟨hb, q2, q3, q4, ?_, arr', n', mapW_at hw, by omega⟩
          obtain ⟨L, r1, r2, r3, r4, r5⟩ := q5
          refine ⟨L, r1, r2, r3, r4, fun arr3 ha m hm => ?_⟩
          rw [mapW_at hw] at ha; simp at ha; obtain ⟨rfl, rfl⟩ := ha
          have hnn : n' = n := by omega
          obtain ⟨m0, h0, h1, h2⟩ := hsub hnn m hm
          subst hnn
          obtain ⟨k, hk1, hk2⟩ := r5 _ hw m0 h0
          exact ⟨k, by rw [← h1]; exact hk1, by rw [← h2]; exact hk2⟩
        · have hbm : bm ≠ b := fun e => by rw [e, ho] at q2; simp at q2; exact hm q2.symm
          exact ⟨q1, q2, q3, q4, q5.kept (mapW_other hbm), arr2, n2, (mapW_other hbm).trans q6, q7⟩
  | dead => trivial

/-- A map is written. -/
theorem Rel.mapWrite (h : Rel P gl N g s a w) {id b n n' : Nat} {es es' es2 es2' : List (AV × AV)} {ks : List Nat} {arr arr' : Array MapEntry} (hb : g.ρ id = some b) (A : MapAt P g w id b n es ks arr es') (hn : n ≤ n')
    (hperm : es2'.Perm es2) (hlen : es2'.length = arr'.toList.length) (hat : ∀ (i : Nat) e m, es2'[i]? = some e → arr'.toList[i]? = some m → EntryR P g w id e m)
    (hborn : arr'.toList.Pairwise fun x y => x.born < y.born) (hlt : ∀ m ∈ arr'.toList, m.born < n') (huniq : es2.Pairwise fun x y => keyEq x.1 y.1 = false) (hfit : ∀ e ∈ es2, keyFit ks e.1 = true)
    (hsub : n' = n → ∀ m ∈ arr'.toList, ∃ m0 ∈ arr.toList, m0.born = m.born ∧ m0.key = m.key) :
    GLe g w g (mapW w b arr' n') ∧ Rel P gl N g { s with heap := s.heap.set id (.map n' es2) } a (mapW w b arr' n') := by
  have hg : GhLe g g := ⟨fun _ _ _ h => h, fun _ _ h => h⟩
  have hk : Kept g w g (mapW w b arr' n') fun o => o ≠ .ob id := fun k hk => ⟨rfl, mapW_other (fun e => hk (by rw [e, A.own])), fun _ => rfl⟩
  refine ⟨⟨hg, fun k hk => ⟨hk, mapW_other (fun e => by rw [e, A.own] at hk; cases hk), fun _ => rfl⟩, by rw [mapW_size]; exact Nat.le_refl _, rfl, rfl⟩, ?_⟩
  refine ⟨h.sorted, h.size, h.defers, fun t e he => (h.env t e he).kept hg hk (by simp) (by simp) (by simp), fun id' ob hob => ?_, fun k off v hv => ?_, fun k hk => by rw [mapW_size]; exact h.own k hk, h.glob, fun i b hi => by simpa using h.rho i b hi⟩
  · simp only at hob
    rw [List.getElem?_set] at hob
    split at hob
    · rename_i e; subst e
      split at hob
      · simp at hob; subst hob
        refine ⟨b, hb, arr', mapW_at A.blk, A.own, ⟨es2', hperm, hlen, fun i e m he hm => ?_⟩, hborn, hlt, huniq, ks, hfit⟩
        obtain ⟨p1, p2, p3, p4⟩ := hat i e m he hm
        exact ⟨p1, p2, p3, p4.kept hg hk (by simp)⟩
      · cases hob
    · rename_i e
      exact (h.heap id' ob hob).besideMap (fun h => e h.symm) hb A.own A.blk hn hsub
  · have hv' := h.gam k off v hv
    by_cases e : k = b
    · subst e
      unfold World.cell? at hv'
      rw [A.blk] at hv'; simp at hv'
    · unfold World.cell? at hv' ⊢
      rw [mapW_other e]; exact hv'

section
variable {id b n : Nat} {es es' : List (AV × AV)} {ks : List Nat} {arr : Array MapEntry}
def repl (kk x : AV) (e : AV × AV) : AV × AV := if keyEq kk e.1 = true then (e.1, x) else e
theorem mapSet_map {kk x : AV} : ∀ {es : List (AV × AV)}, es.Pairwise (fun e e' => keyEq kk e.1 = true → keyEq kk e'.1 = false) → mapSet es kk x = es.map (repl kk x)
  | [], _ => rfl
  | (k, u) :: r, h => by
    obtain ⟨h1, h2⟩ := List.pairwise_cons.1 h
    simp only [mapSet, List.map_cons, repl]
    by_cases hk : keyEq kk k = true
    · simp only [hk, if_true, List.cons.injEq, true_and]
      have : ∀ e ∈ r, repl kk x e = e := fun e he => by simp [repl, h1 e he hk]
      rw [List.map_congr_left this]; simp
    · simp only [hk, Bool.false_eq_true, if_false, mapSet_map h2]
theorem mapDel_filter {kk : AV} : ∀ {es : List (AV × AV)}, es.Pairwise (fun e e' => keyEq kk e.1 = true → keyEq kk e'.1 = false) → mapDel es kk = es.filter (fun e => !keyEq kk e.1)
  | [], _ => rfl
  | (k, u) :: r, h => by
    obtain ⟨h1, h2⟩ := List.pairwise_cons.1 h
    simp only [mapDel, List.filter_cons]
    by_cases hk : keyEq kk k = true
    · simp only [hk, if_true, Bool.not_true, Bool.false_eq_true, if_false]
      rw [List.filter_eq_self.2]
      intro e he
      simp [h1 e he hk]
    · simp only [hk, Bool.false_eq_true, if_false, mapDel_filter h2]
      simp
theorem mapIns_perm {kk x : AV} : ∀ {es : List (AV × AV)}, (mapIns es kk x).Perm ((kk, x) :: es)
  | [] => .refl _
  | (k, u) :: r => by
    simp only [mapIns]
    split
    · exact .refl _
    · exact ((mapIns_perm (es := r)).cons _).trans (.swap _ _ _)
/-- A key stands once. -/
theorem MapAt.once (A : MapAt P g w id b n es ks arr es') {kk : AV} {v : Value} (hf : keyFit ks kk = true) (hv : VR g kk v) :
    (∀ e ∈ es, keyEq kk e.1 = true ↔ kk = e.1) ∧ ∀ l : List (AV × AV), l.Perm es → l.Pairwise (fun e e' => keyEq kk e.1 = true → keyEq kk e'.1 = false) := by
  have h1 : ∀ e ∈ es, keyEq kk e.1 = true ↔ kk = e.1 := fun e he => by
    obtain ⟨_, m, _, _, q⟩ := A.other' he
    exact keyEq_iff hf (A.fit e he) (VR.key (γ := g.γ) hf hv) (VR.key (γ := g.γ) (A.fit e he) q.1)
  refine ⟨h1, fun l hl => ?_⟩
  have : l.Pairwise fun x y => x.1 ≠ y.1 := (hl.symm.pairwise_iff (fun {x y} (h : x.1 ≠ y.1) => h.symm)).1 A.ne
  refine List.Pairwise.imp_of_mem ?_ this
  intro x y hx hy hxy hk
  cases hh : keyEq kk y.1 with
  | false => rfl
  | true => exact absurd (((h1 x (hl.mem_iff.1 hx)).1 hk).symm.trans ((h1 y (hl.mem_iff.1 hy)).1 hh)) hxy
theorem set_map_repl {kk x y : AV} : ∀ {l : List (AV × AV)} {j : Nat}, l[j]? = some (kk, y) → keyEq kk kk = true → l.Pairwise (fun e e' => keyEq kk e.1 = true → keyEq kk e'.1 = false) → l.set j (kk, x) = l.map (repl kk x)
  | [], j, h, _, _ => by simp at h
  | e :: r, 0, h, hk, hp => by
    simp at h; subst h
    obtain ⟨h1, h2⟩ := List.pairwise_cons.1 hp
    simp only [List.set_cons_zero, List.map_cons, repl, hk, if_true, List.cons.injEq, true_and]
    have : ∀ e ∈ r, repl kk x e = e := fun e he => by simp [repl, h1 e he hk]
    rw [List.map_congr_left this]; simp
  | e :: r, j + 1, h, hk, hp => by
    obtain ⟨h1, h2⟩ := List.pairwise_cons.1 hp
    simp only [List.set_cons_succ, List.map_cons, List.cons.injEq]
    have hm : (kk, y) ∈ r := List.mem_of_getElem? (by simpa using h)
    refine ⟨?_, set_map_repl (j := j) (by simpa using h) hk h2⟩
    cases he : keyEq kk e.1 with
    | false => simp [repl, he]
    | true => have := h1 _ hm he; simp only at this; rw [hk] at this; cases this
theorem erase_filter {kk y : AV} : ∀ {l : List (AV × AV)} {j : Nat}, l[j]? = some (kk, y) → keyEq kk kk = true → l.Pairwise (fun e e' => keyEq kk e.1 = true → keyEq kk e'.1 = false) → l.eraseIdx j = l.filter (fun e => !keyEq kk e.1)
  | [], j, h, _, _ => by simp at h
  | e :: r, 0, h, hk, hp => by
    simp at h; subst h
    obtain ⟨h1, h2⟩ := List.pairwise_cons.1 hp
    simp only [List.eraseIdx_cons_zero, List.filter_cons, hk, Bool.not_true, Bool.false_eq_true, if_false]
    rw [List.filter_eq_self.2]
    intro e he
    simp [h1 e he hk]
  | e :: r, j + 1, h, hk, hp => by
    obtain ⟨h1, h2⟩ := List.pairwise_cons.1 hp
    have hm : (kk, y) ∈ r := List.mem_of_getElem? (by simpa using h)
    have he : keyEq kk e.1 = false := by
      cases he : keyEq kk e.1 with
      | false => rfl
      | true => have := h1 _ hm he; simp only at this; rw [hk] at this; cases this
    simp only [List.eraseIdx_cons_succ, List.filter_cons, he, Bool.not_false, if_true, List.cons.injEq, true_and]
    exact erase_filter (by simpa using h) hk h2
theorem MapAt.self {kk : AV} {v : Value} (hf : keyFit ks kk = true) (hv : VR g kk v) : keyEq kk kk = true :=
  (keyEq_vals hf hf (VR.key (γ := g.γ) hf hv) (VR.key (γ := g.γ) hf hv)).1.2 rfl
theorem modify_toList {arr : Array MapEntry} (j : Nat) (f : MapEntry → MapEntry) (i : Nat) : (arr.modify j f).toList[i]? = if j = i then arr.toList[i]?.map f else arr.toList[i]? := by
  simp only [Array.getElem?_toList, Array.getElem?_modify]
theorem pairwise_born_of {l l' : List MapEntry} (h : l.Pairwise fun x y => x.born < y.born) (he : l'.map (·.born) = l.map (·.born)) : l'.Pairwise fun x y => x.born < y.born := by
  have h1 : (l.map (·.born)).Pairwise (· < ·) := List.pairwise_map.2 h
  rw [← he] at h1
  exact List.pairwise_map.1 h1

theorem keyFit_key1 {x : AV} (h : keyFit ks x = true) : key1 x = true := by
  rcases keyFit_inv h with ⟨l, rfl, _⟩ | ⟨cs, rfl, _, h3, h4⟩
  · rfl
  · simp only [key1, List.all_eq_true]
    intro c hc
    rcases h4 (knd c) (by rw [← h3]; exact List.mem_map.2 ⟨c, hc, rfl⟩) with hk | hk
    · obtain ⟨l, rfl⟩ := knd_str hk; rfl
    · obtain ⟨l, rfl⟩ := knd_bool hk; rfl

def chkUpd (P : Program) (o : Oper) (ks : List Nat) (m k v : Opd) : Bool := o.dst == none &&
  (match o.op with
   | .mapUpdate t m' k' v' => chkOpd m' m && chkOpd k' k && chkOpd v' v && (match P.underlying t with | some (.map kt _) => mapKeyOk P kt ks | _ => false)
   | _ => false)
theorem run_update_some {t kt et : TypeId} {b n j : Nat} {arr : Array MapEntry} {m : MapEntry} {k x v : Value} (hu : P.underlying t = some (.map kt et)) (hb : w.heap[b]? = some (.map arr n))
    (h1 : ∀ em, (Instr.checkKey em 10000 kt k).run P w = .ok () w) (h2 : (Instr.findKey kt k arr.toList).run P w = .ok (some (j, x)) w) (hm : arr.toList[j]? = some m) (hk : m.key = k)
    (hs : (Instr.keyThatStays k k).run P w = .ok k w) :
    (Instr.mapUpdate t (.map (some b)) k v).run P w = .ok () (mapW w b (arr.modify j fun e => { e with key := k, val := v }) n) := by
  have hm' : ((arr[j]?).map (·.key)).getD k = k := by
    have : arr[j]? = some m := by simpa using hm
    simp [this, hk]
  simp only [Instr.mapUpdate, Sem.run_bind, run_underlying hu, Result.andThen_ok, MapKept.run_getObj_map hb, h1, h2, hm', hs, MapKept.run_setObj_map _ hb, mapW]
theorem run_update_none {t kt et : TypeId} {b n : Nat} {arr : Array MapEntry} {k v : Value} (hu : P.underlying t = some (.map kt et)) (hb : w.heap[b]? = some (.map arr n))
    (h1 : ∀ em, (Instr.checkKey em 10000 kt k).run P w = .ok () w) (h2 : (Instr.findKey kt k arr.toList).run P w = .ok none w) :
    (Instr.mapUpdate t (.map (some b)) k v).run P w = .ok () (mapW w b (arr.push { key := k, val := v, born := n }) (n + 1)) := by
  simp only [Instr.mapUpdate, Sem.run_bind, run_underlying hu, Result.andThen_ok, MapKept.run_getObj_map hb, h1, h2, MapKept.run_setObj_map _ hb, mapW]

/-- A map's entry is set. -/
theorem upd_core (h : Rel P gl N g s a w) (hb : g.ρ id = some b) (A : MapAt P g w id b n es ks arr es') {t kt et : TypeId} (hu : P.underlying t = some (.map kt et)) (hk : mapKeyOk P kt ks = true)
    {kk x : AV} {kv v : Value} (hf : keyFit ks kk = true) (hkv : VR g kk kv) (hx : VR g x v) (ho : ∀ born, (mapGet es kk = none → born = n) → (∀ (j : Nat) y m, mapGet es kk = some y → es'[j]? = some (kk, y) → arr.toList[j]? = some m → born = m.born) → OwnR P g w (.oc id born) x v) :
    ∃ w', (Instr.mapUpdate t (.map (some b)) kv v).run P w = .ok () w' ∧ GLe g w g w' ∧ Rel P gl N g { s with heap := s.heap.set id (mapPut n es kk x) } a w' := by
  obtain ⟨hck, hfd⟩ := A.find hk hf hkv
  obtain ⟨honce, hpw⟩ := A.once hf hkv
  have hself : keyEq kk kk = true := MapAt.self hf hkv
  rcases hfd with ⟨f1, f2, f3, f4⟩ | ⟨j, me, y, f1, f3, f4, f5, f6, f7⟩
  · refine ⟨_, run_update_none hu A.blk hck f1, ?_⟩
    have hown := ho n (fun _ => rfl) (fun j y m hy => by rw [f2] at hy; cases hy)
    have := h.mapWrite (n' := n + 1) (es2 := mapIns es kk x) (es2' := es' ++ [(kk, x)]) (arr' := arr.push { key := kv, val := v, born := n }) hb A (by omega)
      ((List.perm_append_comm.trans (A.perm.cons _)).trans mapIns_perm.symm) (by simp [A.len]) (fun i e m he hm => by
        simp only [Array.toList_push] at hm
        by_cases hi : i < es'.length
        · rw [List.getElem?_append_left hi] at he
          rw [List.getElem?_append_left (by rw [← A.len]; exact hi)] at hm
          exact A.at_ i e m he hm
        · rw [List.getElem?_append_right (by omega)] at he
          rw [List.getElem?_append_right (by rw [← A.len]; omega)] at hm
          have hz : i - es'.length = 0 := by
            have := (List.getElem?_eq_some_iff.1 he).1; simp at this; omega
          rw [← A.len] at hm
          rw [hz] at he hm
          simp at he hm; subst he hm
          exact ⟨hkv, keyFit_key1 hf, hx, hown⟩)
      (by
        simp only [Array.toList_push]
        refine List.pairwise_append.2 ⟨A.born, by simp, fun x hx y hy => ?_⟩
        simp at hy; subst hy; exact A.lt x hx)
      (fun m hm => by
        simp only [Array.toList_push, List.mem_append, List.mem_singleton] at hm
        rcases hm with hm | rfl
        · have := A.lt m hm; omega
        · simp)
      (by
        have hcons : ((kk, x) :: es).Pairwise fun x y => keyEq x.1 y.1 = false := List.pairwise_cons.2 ⟨fun e he => f3 e he, A.uniq⟩
        have hcons' : ((kk, x) :: es).Pairwise fun x y => x.1 ≠ y.1 := List.pairwise_cons.2 ⟨(fun e he hee => by
          have := f3 e he; simp only at hee; rw [(honce e he).2 hee] at this; cases this), A.ne⟩
        have hp' : (mapIns es kk x).Pairwise fun x y => x.1 ≠ y.1 := (mapIns_perm.symm.pairwise_iff (fun {x y} (h : x.1 ≠ y.1) => h.symm)).1 hcons'
        refine List.Pairwise.imp_of_mem ?_ hp'
        intro p q hp hq hpq
        have hfit : ∀ p ∈ (kk, x) :: es, keyFit ks p.1 = true ∧ ∃ v, PR g.γ p.1 v := fun p hp => by
          rcases List.mem_cons.1 hp with rfl | hp
          · exact ⟨hf, kv, VR.key hf hkv⟩
          · obtain ⟨_, m, _, _, q⟩ := A.other' hp; exact ⟨A.fit p hp, m.key, VR.key (A.fit p hp) q.1⟩
        obtain ⟨a1, v1, a2⟩ := hfit p (mapIns_perm.mem_iff.1 hp)
        obtain ⟨b1, v2, b2⟩ := hfit q (mapIns_perm.mem_iff.1 hq)
        cases hh : keyEq p.1 q.1 with
        | false => rfl
        | true => exact absurd ((keyEq_iff a1 b1 a2 b2).1 hh) hpq)
      (fun e he => by
        rcases List.mem_cons.1 (mapIns_perm.mem_iff.1 he) with rfl | he
        · exact hf
        · exact A.fit e he)
      (fun h => by omega)
    simp only [mapPut, f2]
    exact this
  · have hstay : (Instr.keyThatStays kv kv).run P w = .ok kv w := by
      obtain ⟨l, hl⟩ := keyOf_fit hk hf (VR.key (γ := g.γ) hf hkv)
      exact (mapKeyOk_keyed hk).stays w hl
    refine ⟨_, run_update_some hu A.blk hck f1 f3 f4 hstay, ?_⟩
    have hown := ho me.born (fun h => by rw [f6] at h; cases h) (fun j' y' m' hy hj hm => by
      have hjj : j' = j := by
        have h1 := hpw es' A.perm
        rcases Nat.lt_trichotomy j' j with hlt | he | hlt
        · have := List.pairwise_iff_getElem.1 h1 j' j (List.getElem?_eq_some_iff.1 hj).1 (List.getElem?_eq_some_iff.1 f5).1 hlt
          rw [(List.getElem?_eq_some_iff.1 hj).2, (List.getElem?_eq_some_iff.1 f5).2] at this
          simp only [hself, forall_const] at this; cases this
        · exact he
        · have := List.pairwise_iff_getElem.1 h1 j j' (List.getElem?_eq_some_iff.1 f5).1 (List.getElem?_eq_some_iff.1 hj).1 hlt
          rw [(List.getElem?_eq_some_iff.1 hj).2, (List.getElem?_eq_some_iff.1 f5).2] at this
          simp only [hself, forall_const] at this; cases this
      subst hjj; rw [f3] at hm; simp at hm; rw [hm])
    have hset := set_map_repl (kk := kk) (x := x) f5 hself (hpw es' A.perm)
    have hmap := mapSet_map (kk := kk) (x := x) (hpw es (.refl _))
    have hkeys : ∀ l : List (AV × AV), (l.map (repl kk x)).map (·.1) = l.map (·.1) := fun l => by
      rw [List.map_map]
      refine List.map_congr_left fun e _ => ?_
      simp only [Function.comp, repl]; split <;> rfl
    have hborn : (arr.modify j fun e => { e with key := kv, val := v }).toList.map (·.born) = arr.toList.map (·.born) := by
      apply List.ext_getElem?
      intro i
      simp only [List.getElem?_map, modify_toList]
      split
      · cases arr.toList[i]? <;> rfl
      · rfl
    have := h.mapWrite (n' := n) (es2 := mapSet es kk x) (es2' := es'.set j (kk, x)) (arr' := arr.modify j fun e => { e with key := kv, val := v }) hb A (Nat.le_refl _)
      (by rw [hset, hmap]; exact A.perm.map _) (by simp [A.len]) (fun i e m he hm => by
        rw [modify_toList] at hm
        rw [List.getElem?_set] at he
        by_cases hij : j = i
        · subst hij
          simp only [if_true, f3, Option.map_some, Option.some.injEq] at hm
          have hlt : j < es'.length := (List.getElem?_eq_some_iff.1 f5).1
          simp only [if_true, hlt, Option.some.injEq] at he
          subst he hm
          exact ⟨hkv, keyFit_key1 hf, hx, hown⟩
        · simp only [hij, if_false] at he hm
          exact A.at_ i e m he hm)
      (pairwise_born_of A.born hborn)
      (fun m hm => by
        have : m.born ∈ (arr.modify j fun e => { e with key := kv, val := v }).toList.map (·.born) := List.mem_map.2 ⟨m, hm, rfl⟩
        rw [hborn] at this
        obtain ⟨m0, h0, h1⟩ := List.mem_map.1 this
        rw [← h1]; exact A.lt m0 h0)
      (by
        have h1 : (es.map (·.1)).Pairwise fun x y => keyEq x y = false := List.pairwise_map.2 A.uniq
        rw [hmap]
        rw [← hkeys es] at h1
        exact List.pairwise_map.1 h1)
      (fun e he => by
        rw [hmap] at he
        obtain ⟨e0, h0, rfl⟩ := List.mem_map.1 he
        have := A.fit e0 h0
        simp only [repl]; split <;> exact this)
      (fun _ m hm => by
        obtain ⟨i, hi, hmi⟩ := List.getElem_of_mem hm
        have h1 : (arr.modify j fun e => { e with key := kv, val := v }).toList[i]? = some m := by rw [List.getElem?_eq_getElem hi, hmi]
        rw [modify_toList] at h1
        split at h1
        · rename_i hij; subst hij
          rw [f3] at h1; simp at h1; subst h1
          exact ⟨me, List.mem_of_getElem? f3, rfl, f4⟩
        · exact ⟨m, List.mem_of_getElem? h1, rfl, rfl⟩)
    simp only [mapPut, f6]
    exact this
end
end
end AM
/-! The simulation of maps: updates, deletions, lookups that take. -/
namespace AM
open Go Go.Maps
section
variable {P : Program} {gl : Glob} {N : Nat} {g g' : Gh} {s s' : St} {a : Act} {w w' : World} {o : Oper} {γ γ' : Gam}

theorem sim_upd {ks : List Nat} {m k v : Opd} (h : Rel P gl N g s a w) (hc : chkUpd P o ks m k v = true) (he : ev gl s (.upd ks m k v) = some s') : Sim1 P gl N o g a w s' := by
  simp only [chkUpd, Bool.and_eq_true, beq_iff_eq] at hc
  obtain ⟨hd, hop⟩ := hc
  split at hop
  · rename_i t m' k' v' ho
    simp only [Bool.and_eq_true] at hop
    obtain ⟨⟨⟨hm, hk⟩, hv⟩, hop⟩ := hop
    split at hop
    · rename_i kt et hu
      simp only [ev] at he
      split at he
      · rename_i id kk x e1 e2 e3
        split at he
        · rename_i n es hid
          split at he
          · rename_i hf
            simp only [Bool.and_eq_true] at hf
            simp at he; subst he
            obtain ⟨b, r1, r2⟩ := h.heap _ _ hid
            obtain ⟨arr, es', A⟩ := r2.at hf.2
            obtain ⟨b', q1, q2⟩ := (evO_sound h hm e1).map_inv
            rw [r1] at q1; simp at q1; subst q1
            obtain ⟨w', p1, p2, p3⟩ := upd_core h r1 A hu hop hf.1 (evO_sound h hk e2) (evO_sound h hv e3).noOwn (fun _ _ _ => NotOwn.ownR (NotOwn.noOwn x))
            refine ⟨undef, w', g, .inr ⟨?_, rfl⟩, p2, ?_⟩
            · simp only [execOp, ho, q2, Sem.run_bind, p1, Result.andThen_ok, Sem.run_pure]
            · rw [hd]; exact p3
          · cases he
        · cases he
      · cases he
    · cases hop
  · cases hop

def chkUpdT (P : Program) (o : Oper) (ks : List Nat) (m k : Opd) (v : Nat) : Bool := chkUpd P o ks m k (.t v)
theorem sim_updT {ks : List Nat} {m k : Opd} {v : Nat} (h : Rel P gl N g s a w) (hc : chkUpdT P o ks m k v = true) (he : ev gl s (.updT ks m k v) = some s') : Sim1 P gl N o g a w s' := by
  simp only [chkUpdT, chkUpd, Bool.and_eq_true, beq_iff_eq] at hc
  obtain ⟨hd, hop⟩ := hc
  split at hop
  · rename_i t m' k' v' ho
    simp only [Bool.and_eq_true] at hop
    obtain ⟨⟨⟨hm, hk⟩, hv⟩, hop⟩ := hop
    have hv' : v' = .tmp v := by unfold chkOpd at hv; split at hv <;> simp_all
    subst hv'
    split at hop
    · rename_i kt et hu
      simp only [ev] at he
      split at he
      · rename_i id kk e sz xs e1 e2 hvx
        split at he
        · rename_i n es hid
          split at he
          · rename_i hf
            simp only [Bool.and_eq_true] at hf
            obtain ⟨b, r1, r2⟩ := h.heap _ _ hid
            obtain ⟨arr, es', A⟩ := r2.at hf.2
            obtain ⟨b', q1, q2⟩ := (evO_sound h hm e1).map_inv
            rw [r1] at q1; simp at q1; subst q1
            have hkv := evO_sound h hk e2
            obtain ⟨h3, h4⟩ := h.strip hvx
            obtain ⟨u, p1, p2, p3⟩ := h.env _ _ hvx
            have hfree := strip_free s v sz xs
            -- the owner that the entry names
            have hborn : ∃ born, (mapGet es kk = none → born = n) ∧ ∀ (j : Nat) y m, mapGet es kk = some y → es'[j]? = some (kk, y) → arr.toList[j]? = some m → born = m.born := by
              obtain ⟨_, hfd⟩ := A.find hop hf.1 hkv
              obtain ⟨_, hpw⟩ := A.once hf.1 hkv
              have hself : keyEq kk kk = true := MapAt.self hf.1 hkv
              rcases hfd with ⟨_, f2, _⟩ | ⟨j, me, y, _, f3, _, f5, f6, _⟩
              · exact ⟨n, fun _ => rfl, fun j y m hy => by rw [f2] at hy; cases hy⟩
              · refine ⟨me.born, (fun h => by rw [f6] at h; cases h), fun j' y' m' hy hj hm => ?_⟩
                have hjj : j' = j := by
                  have h1 := hpw es' A.perm
                  rcases Nat.lt_trichotomy j' j with hlt | he | hlt
                  · have := List.pairwise_iff_getElem.1 h1 j' j (List.getElem?_eq_some_iff.1 hj).1 (List.getElem?_eq_some_iff.1 f5).1 hlt
                    rw [(List.getElem?_eq_some_iff.1 hj).2, (List.getElem?_eq_some_iff.1 f5).2] at this
                    simp only [hself, forall_const] at this; cases this
                  · exact he
                  · have := List.pairwise_iff_getElem.1 h1 j j' (List.getElem?_eq_some_iff.1 f5).1 (List.getElem?_eq_some_iff.1 hj).1 hlt
                    rw [(List.getElem?_eq_some_iff.1 hj).2, (List.getElem?_eq_some_iff.1 f5).2] at this
                    simp only [hself, forall_const] at this; cases this
                subst hjj; rw [f3] at hm; simp at hm; rw [hm]
            obtain ⟨born, hb1, hb2⟩ := hborn
            have hpass : ∃ g', GLe g w g' w ∧ Rel P gl N g' { s with env := s.env.ins v (.v (.list none sz xs)) } a w ∧ OwnR P g' w (.oc id born) (.list (some e) sz xs) u := by
              cases hb : u.ownBlock with
              | none => exact ⟨g, GLe.refl _ _, h4, p3.free hb⟩
              | some b =>
                obtain ⟨i', z, vs, m1, m2, m3, m4, m5, m6, m6', m7, m8⟩ := p3 e sz xs rfl
                obtain ⟨n1, n2⟩ := h4.pass (.var v) (.oc id born) hfree (by simp) (m8 b hb).1 (by simp)
                exact ⟨_, n1, n2, p3.pass b hb⟩
            obtain ⟨g', n1, n2, n3⟩ := hpass
            obtain ⟨b2, s1, s2⟩ := n2.heap _ _ hid
            have : b2 = b := by have := n1.ρ _ _ r1; rw [s1] at this; simpa using this
            subst this
            obtain ⟨arr2, es2', A2⟩ := s2.at hf.2
            have harr : arr2 = arr := by have := A2.blk; rw [A.blk] at this; simp at this; exact this.symm
            subst harr
            have hkv' := hkv.mono n1.toGhLe
            -- the two ways to lay the entries side by side agree at this key
            have hb2' : ∀ (j : Nat) y m, mapGet es kk = some y → es2'[j]? = some (kk, y) → arr2.toList[j]? = some m → born = m.born := by
              intro j y m hy hj hm2
              obtain ⟨_, hfd⟩ := A.find hop hf.1 hkv
              rcases hfd with ⟨_, f2, _⟩ | ⟨j1, me, y1, _, f3, f4, f5, f6, f7⟩
              · rw [f2] at hy; cases hy
              · have hbm := hb2 j1 y1 me f6 f5 f3
                have hr := A2.at_ j _ _ hj hm2
                have hkm : m.key = me.key := by
                  have := (keyEq_vals hf.1 hf.1 (VR.key (γ := g'.γ) hf.1 hr.1) (VR.key (γ := g.γ) hf.1 hkv)).2.1 rfl
                  rw [this, f4]
                -- keys of the block differ
                have hlt1 : j1 < es'.length := (List.getElem?_eq_some_iff.1 f5).1
                have hne : ∀ j' m', arr2.toList[j']? = some m' → m'.key = me.key → j' = j1 := by
                  intro j' m' hm' hk'
                  have hl' : j' < es'.length := by rw [A.len]; exact (List.getElem?_eq_some_iff.1 hm').1
                  have hr' := A.at_ j' es'[j'] m' (by simp [hl']) hm'
                  have hfit' := A.fit _ (A.perm.mem_iff.1 (List.getElem_mem hl'))
                  have hkk' : kk = es'[j'].1 := (keyEq_vals hf.1 hfit' (VR.key (γ := g.γ) hf.1 hkv) (VR.key (γ := g.γ) hfit' hr'.1)).2.2 (by rw [hk', f4])
                  have hself : keyEq kk kk = true := MapAt.self hf.1 hkv
                  obtain ⟨_, hpw⟩ := A.once hf.1 hkv
                  have h1 := hpw es' A.perm
                  rcases Nat.lt_trichotomy j' j1 with hlt | he | hlt
                  · have := List.pairwise_iff_getElem.1 h1 j' j1 hl' hlt1 hlt
                    rw [(List.getElem?_eq_some_iff.1 f5).2, ← hkk'] at this
                    simp only [hself, forall_const] at this; cases this
                  · exact he
                  · have := List.pairwise_iff_getElem.1 h1 j1 j' hlt1 hl' hlt
                    rw [(List.getElem?_eq_some_iff.1 f5).2, ← hkk'] at this
                    simp only [hself, forall_const] at this; cases this
                have := hne j m hm2 hkm
                subst this
                rw [f3] at hm2; simp at hm2; rw [hbm, hm2]
            obtain ⟨w', t1, t2, t3⟩ := upd_core (x := .list (some e) sz xs) (v := u) n2 s1 A2 hu hop hf.1 hkv' (p2.mono n1.toGhLe) (fun born' c1 c2 => by
              have : born' = born := by
                cases hg : mapGet es kk with
                | none => rw [c1 hg, hb1 hg]
                | some y =>
                  obtain ⟨_, hfd⟩ := A2.find hop hf.1 hkv'
                  rcases hfd with ⟨_, f2, _⟩ | ⟨j1, me, y1, _, f3, f4, f5, f6, f7⟩
                  · rw [f2] at hg; cases hg
                  · rw [c2 j1 y1 me f6 f5 f3, hb2' j1 y1 me f6 f5 f3]
              subst this; exact n3)
            have hput : ({ s with heap := s.heap.set id (mapPut n es kk (.list (some e) sz xs)) } : St).put v (.list none sz xs) = some { env := s.env.ins v (.v (.list none sz xs)), heap := s.heap.set id (mapPut n es kk (.list (some e) sz xs)) } := by
              simp [St.put, okPut, hvx]
            rw [hput] at he; simp at he; subst he
            refine ⟨undef, w', g', .inr ⟨?_, rfl⟩, n1.trans t2, ?_⟩
            · have hev : a.eval (.tmp v) = u := by simp [Act.eval, p1]
              simp only [execOp, ho, q2, hev, Sem.run_bind, t1, Result.andThen_ok, Sem.run_pure]
            · rw [hd]; exact t3
          · cases he
        · cases he
      · cases he
    · cases hop
  · cases hop

def chkMdel (P : Program) (N : Nat) (o : Oper) (ks : List Nat) (d : Option Nat) (m k : Opd) : Bool := (match d with | some d => dstIs N o d | none => o.dst == none) &&
  (match bcall o.op with
   | some (.delete, [m', k'], t :: _) => chkOpd m' m && chkOpd k' k && (match P.underlying t with | some (.map kt _) => mapKeyOk P kt ks | _ => false)
   | _ => false)
theorem run_delete_some {t ty kt et : TypeId} {ts : List TypeId} {b n j : Nat} {arr : Array MapEntry} {k x : Value} (hu : P.underlying t = some (.map kt et)) (hb : w.heap[b]? = some (.map arr n))
    (h1 : ∀ em, (Instr.checkKey em 10000 kt k).run P w = .ok () w) (h2 : (Instr.findKey kt k arr.toList).run P w = .ok (some (j, x)) w) :
    (Builtin.delete_ (t :: ts).toArray ty #[.map (some b), k]).run P w = .ok (.tuple #[]) (mapW w b (arr.eraseIdxIfInBounds j) n) := by
  have e0 : ((t :: ts).toArray[0]? : Option TypeId) = some t := by simp
  simp only [Builtin.delete_, e0, List.getElem?_toArray, List.getElem?_cons_zero, List.getElem?_cons_succ, Sem.run_bind, run_underlying hu, Result.andThen_ok, MapKept.run_getObj_map hb, h1, h2, MapKept.run_setObj_map _ hb, Sem.run_pure, mapW]
theorem run_delete_none {t ty kt et : TypeId} {ts : List TypeId} {b n : Nat} {arr : Array MapEntry} {k : Value} (hu : P.underlying t = some (.map kt et)) (hb : w.heap[b]? = some (.map arr n))
    (h1 : ∀ em, (Instr.checkKey em 10000 kt k).run P w = .ok () w) (h2 : (Instr.findKey kt k arr.toList).run P w = .ok none w) :
    (Builtin.delete_ (t :: ts).toArray ty #[.map (some b), k]).run P w = .ok (.tuple #[]) (mapW w b arr n) := by
  have e0 : ((t :: ts).toArray[0]? : Option TypeId) = some t := by simp
  simp only [Builtin.delete_, e0, List.getElem?_toArray, List.getElem?_cons_zero, List.getElem?_cons_succ, Sem.run_bind, run_underlying hu, Result.andThen_ok, MapKept.run_getObj_map hb, h1, h2, MapKept.run_setObj_map _ hb, Sem.run_pure, mapW]
theorem filter_none {kk : AV} {es : List (AV × AV)} (h : ∀ e ∈ es, keyEq kk e.1 = false) : es.filter (fun e => !keyEq kk e.1) = es := List.filter_eq_self.2 fun e he => by simp [h e he]
theorem del_core {id b n : Nat} {es es' : List (AV × AV)} {ks : List Nat} {arr : Array MapEntry} (h : Rel P gl N g s a w) (hb : g.ρ id = some b) (A : MapAt P g w id b n es ks arr es') {t kt et : TypeId} (hu : P.underlying t = some (.map kt et)) (hk : mapKeyOk P kt ks = true)
    {kk : AV} {kv : Value} (hf : keyFit ks kk = true) (hkv : VR g kk kv) (ty : TypeId) (ts : List TypeId) :
    ∃ w', (Builtin.delete_ (t :: ts).toArray ty #[.map (some b), kv]).run P w = .ok (.tuple #[]) w' ∧ GLe g w g w' ∧ Rel P gl N g { s with heap := s.heap.set id (.map n (mapDel es kk)) } a w' := by
  obtain ⟨hck, hfd⟩ := A.find hk hf hkv
  obtain ⟨honce, hpw⟩ := A.once hf hkv
  have hself : keyEq kk kk = true := MapAt.self hf hkv
  have hdel := mapDel_filter (kk := kk) (hpw es (.refl _))
  rcases hfd with ⟨f1, f2, f3, f4⟩ | ⟨j, me, y, f1, f3, f4, f5, f6, f7⟩
  · refine ⟨_, run_delete_none hu A.blk hck f1, ?_⟩
    rw [hdel, filter_none f3]
    exact h.mapWrite hb A (Nat.le_refl _) A.perm A.len A.at_ A.born A.lt A.uniq A.fit (fun _ m hm => ⟨m, hm, rfl, rfl⟩)
  · refine ⟨_, run_delete_some hu A.blk hck f1, ?_⟩
    have hlt : j < arr.size := by have := (List.getElem?_eq_some_iff.1 f3).1; simpa using this
    have hto : (arr.eraseIdxIfInBounds j).toList = arr.toList.eraseIdx j := by
      simp [Array.eraseIdxIfInBounds, hlt]
    have hsub : List.Sublist (arr.eraseIdxIfInBounds j).toList arr.toList := by rw [hto]; exact List.eraseIdx_sublist _ _
    have her := erase_filter (kk := kk) (j := j) f5 hself (hpw es' A.perm)
    have := h.mapWrite (n' := n) (es2 := mapDel es kk) (es2' := es'.eraseIdx j) (arr' := arr.eraseIdxIfInBounds j) hb A (Nat.le_refl _)
      (by rw [her, hdel]; exact A.perm.filter _)
      (by rw [hto]; simp only [List.length_eraseIdx, A.len])
      (fun i e m he hm => by
        rw [hto] at hm
        rw [List.getElem?_eraseIdx] at he hm
        split at he
        · rename_i hi; rw [if_pos hi] at hm; exact A.at_ _ e m he hm
        · rename_i hi; rw [if_neg hi] at hm; exact A.at_ _ e m he hm)
      (A.born.sublist hsub) (fun m hm => A.lt m (hsub.subset hm))
      (by rw [hdel]; exact A.uniq.sublist List.filter_sublist)
      (fun e he => by rw [hdel] at he; exact A.fit e (List.mem_filter.1 he).1)
      (fun _ m hm => ⟨m, hsub.subset hm, rfl, rfl⟩)
    exact this
theorem sim_mdel {ks : List Nat} {d : Option Nat} {m k : Opd} (h : Rel P gl N g s a w) (hc : chkMdel P N o ks d m k = true) (he : ev gl s (.mdel ks d m k) = some s') : Sim1 P gl N o g a w s' := by
  simp only [chkMdel, Bool.and_eq_true] at hc
  obtain ⟨hd, hop⟩ := hc
  split at hop
  · rename_i m' k' t ts hbc
    simp only [Bool.and_eq_true] at hop
    obtain ⟨⟨hm, hk⟩, hop⟩ := hop
    split at hop
    · rename_i kt et hu
      simp only [ev] at he
      split at he
      · rename_i id kk e1 e2
        split at he
        · rename_i n es hid
          split at he
          · rename_i hf
            simp only [Bool.and_eq_true] at hf
            obtain ⟨b, r1, r2⟩ := h.heap _ _ hid
            obtain ⟨arr, es', A⟩ := r2.at hf.2
            obtain ⟨b', q1, q2⟩ := (evO_sound h hm e1).map_inv
            rw [r1] at q1; simp at q1; subst q1
            obtain ⟨w', p1, p2, p3⟩ := del_core h r1 A hu hop hf.1 (evO_sound h hk e2) o.type ts
            refine ⟨.tuple #[], w', g, .inl ?_, p2, ?_⟩
            · obtain ⟨cst, hrun⟩ := bcall_run (o := o) hbc rfl a.eval
              rw [hrun]
              simp only [List.map_cons, List.map_nil, builtin, q2, Sem.run_bind, p1, Result.andThen_ok, Sem.run_pure]
            · cases d with
              | none =>
                simp [St.putO] at he; subst he
                simp only [beq_iff_eq] at hd
                rw [hd]; exact p3
              | some d =>
                simp only [dstIs, Bool.and_eq_true, beq_iff_eq, decide_eq_true_eq] at hd
                rw [hd.1]
                exact p3.put he hd.2 (.tup _ [] .nil) (.of_ne fun _ _ _ h => by simp at h)
          · cases he
        · cases he
      · cases he
    · cases hop
  · cases hop

def chkLookT (P : Program) (N : Nat) (o : Oper) (ks : List Nat) (d : Nat) (m k : Opd) (zero : AV) : Bool := dstIs N o d &&
  (match o.op, zero with
   | .lookup t m' k' false, .list (some e) sz [] => chkOpd m' m && chkOpd k' k && okElem P e sz &&
      (match P.underlying t with | some (.map kt et) => mapKeyOk P kt ks && (match P.info? et with | some i => (match i.zero with | some (.slice none 0 0) => true | _ => false) | none => false) | _ => false)
   | _, _ => false)
/-- What an entry owns goes to a temporary. -/
theorem Rel.passEntry {id b n : Nat} {es es' : List (AV × AV)} {ks : List Nat} {arr : Array MapEntry} (h : Rel P gl N g s a w) (hb : g.ρ id = some b) (A : MapAt P g w id b n es ks arr es')
    {kk : AV} {kv : Value} (hf : keyFit ks kk = true) (hkv : VR g kk kv) {j e sz : Nat} {xs : List AV} {me : MapEntry} (hj : es'[j]? = some (kk, .list (some e) sz xs)) (hm : arr.toList[j]? = some me) {d : Nat} (hd : d < N)
    (hp : ({ s with heap := s.heap.set id (.map n (mapSet es kk (.list none sz xs))) } : St).put d (.list (some e) sz xs) = some s') :
    ∃ g', GLe g w g' w ∧ Rel P gl N g' s' (a.put (some d) me.val) w := by
  obtain ⟨honce, hpw⟩ := A.once hf hkv
  have hself : keyEq kk kk = true := MapAt.self hf hkv
  obtain ⟨c1, c2, c3, c4⟩ := A.at_ j _ _ hj hm
  have hset := set_map_repl (kk := kk) (x := .list none sz xs) hj hself (hpw es' A.perm)
  have hmap := mapSet_map (kk := kk) (x := .list none sz xs) (hpw es (.refl _))
  -- the state without what is owned
  have hstrip : ∀ g', GhLe g g' → (∀ bb, g.Ω bb ≠ .oc id me.born → g'.Ω bb = g.Ω bb) → (∀ bb, g'.Ω bb ≠ .none → g.Ω bb ≠ .none) → g'.γ = g.γ → g'.ρ = g.ρ →
      Rel P gl N g' { s with heap := s.heap.set id (.map n (mapSet es kk (.list none sz xs))) } a w := by
    intro g' hg hΩ hΩ' hγ hρ
    have hk : Kept g w g' w fun o => o ≠ .oc id me.born := fun bb hbb => ⟨hΩ bb hbb, rfl, fun o => by rw [hγ]⟩
    refine ⟨h.sorted, h.size, h.defers, fun t e he => (h.env t e he).kept hg hk (by simp) (by simp) (by simp), fun id' ob hob => ?_, fun b off v hv => h.gam b off v (by rw [← hγ]; exact hv), fun bb hbb => h.own bb (hΩ' bb hbb), fun n x hx => by rw [hγ]; exact h.glob n x hx, fun i b hi => by rw [hρ] at hi; simpa using h.rho i b hi⟩
    simp only at hob
    rw [List.getElem?_set] at hob
    split at hob
    · rename_i e0; subst e0
      split at hob
      · simp at hob; subst hob
        refine ⟨b, by rw [hρ]; exact hb, arr, A.blk, by rw [hΩ b (by rw [A.own]; simp)]; exact A.own, ⟨es'.set j (kk, .list none sz xs), by rw [hset, hmap]; exact A.perm.map _, by simp [A.len], fun i e0 m he hmi => ?_⟩, A.born, A.lt, ?_, ks, ?_⟩
        · rw [List.getElem?_set] at he
          split at he
          · rename_i hij; subst hij
            split at he
            · simp at he; subst he
              rw [hm] at hmi; simp at hmi; subst hmi
              exact ⟨c1.mono hg, c2, (c3.noOwn).mono hg, NotOwn.ownR (NotOwn.none _ _)⟩
            · cases he
          · rename_i hij
            obtain ⟨k1, k2, k3, k4⟩ := A.at_ i e0 m he hmi
            refine ⟨k1.mono hg, k2, k3.mono hg, k4.kept hg hk ?_⟩
            have hne : m.born ≠ me.born := by
              have hl1 := (List.getElem?_eq_some_iff.1 hmi).1
              have hl2 := (List.getElem?_eq_some_iff.1 hm).1
              have g1 := (List.getElem?_eq_some_iff.1 hmi).2
              have g2 := (List.getElem?_eq_some_iff.1 hm).2
              rcases Nat.lt_or_gt_of_ne hij with hlt | hlt
              · have := List.pairwise_iff_getElem.1 A.born j i hl2 hl1 hlt
                rw [g1, g2] at this; omega
              · have := List.pairwise_iff_getElem.1 A.born i j hl1 hl2 hlt
                rw [g1, g2] at this; omega
            simp [hne]
        · have hkeys : (es.map (repl kk (.list none sz xs))).map (·.1) = es.map (·.1) := by
            rw [List.map_map]
            refine List.map_congr_left fun e _ => ?_
            simp only [Function.comp, repl]; split <;> rfl
          have h1 : (es.map (·.1)).Pairwise fun x y => keyEq x y = false := List.pairwise_map.2 A.uniq
          rw [hmap]
          rw [← hkeys] at h1
          exact List.pairwise_map.1 h1
        · intro e0 he0
          rw [hmap] at he0
          obtain ⟨e1, h1, rfl⟩ := List.mem_map.1 he0
          have := A.fit e1 h1
          simp only [repl]; split <;> exact this
      · cases hob
    · rename_i hne
      exact (h.heap id' ob hob).kept hg hk (by simp) (fun i => by simp only [ne_eq, Owner.oc.injEq, not_and]; exact fun e => absurd e.symm hne)
  cases hbk : me.val.ownBlock with
  | none =>
    have h1 := hstrip g ⟨fun _ _ _ h => h, fun _ _ h => h⟩ (fun _ _ => rfl) (fun _ h => h) rfl rfl
    exact ⟨g, GLe.refl _ _, h1.put hp hd c3 (c4.free hbk)⟩
  | some bb =>
    obtain ⟨i, z, vs, m1, m2, m3, m4, m5, m6, m6', m7, m8⟩ := c4 e sz xs rfl
    let g' : Gh := { g with Ω := fun k => if k = bb then .var d else g.Ω k }
    have hg : GhLe g g' := ⟨fun _ _ _ h => h, fun _ _ h => h⟩
    have hΩ : ∀ k, g.Ω k ≠ .oc id me.born → g'.Ω k = g.Ω k := fun k hk => by
      have : k ≠ bb := by rintro rfl; exact hk (m8 k hbk).1
      simp [g', this]
    have h1 := hstrip g' hg hΩ (fun k hk => by
      by_cases e0 : k = bb
      · subst e0; rw [(m8 k hbk).1]; simp
      · simpa [g', e0] using hk) rfl rfl
    refine ⟨g', ⟨hg, fun k hk => ⟨by rw [hΩ k (by rw [hk]; simp)]; exact hk, rfl, fun _ => rfl⟩, Nat.le_refl _, rfl, rfl⟩, h1.put hp hd (c3.mono hg) (c4.pass bb hbk)⟩
theorem sim_lookT {ks : List Nat} {d : Nat} {m k : Opd} {zero : AV} (h : Rel P gl N g s a w) (hc : chkLookT P N o ks d m k zero = true) (he : ev gl s (.lookT ks d m k zero) = some s') : Sim1 P gl N o g a w s' := by
  simp only [chkLookT, Bool.and_eq_true] at hc
  obtain ⟨hd, hop⟩ := hc
  split at hop
  · rename_i t m' k' e0 sz0 ho
    simp only [Bool.and_eq_true] at hop
    obtain ⟨⟨⟨hm, hk⟩, hok⟩, hop⟩ := hop
    split at hop
    · rename_i kt et hu
      simp only [Bool.and_eq_true] at hop
      obtain ⟨hkt, hz⟩ := hop
      split at hz
      · rename_i i hi
        split at hz
        · rename_i hzv
          simp only [dstIs, Bool.and_eq_true, beq_iff_eq, decide_eq_true_eq] at hd
          simp only [ev] at he
          split at he
          · rename_i id kk e1 e2
            split at he
            · rename_i nn es hid
              split at he
              · rename_i hf
                simp only [Bool.and_eq_true] at hf
                obtain ⟨b, r1, r2⟩ := h.heap _ _ hid
                obtain ⟨arr, es', A⟩ := r2.at hf.2
                obtain ⟨b', q1, q2⟩ := (evO_sound h hm e1).map_inv
                rw [r1] at q1; simp at q1; subst q1
                have hkv := evO_sound h hk e2
                obtain ⟨hck, hfd⟩ := A.find hkt hf.1 hkv
                rcases hfd with ⟨f1, f2, _⟩ | ⟨j, me, x, f1, f2, f3, f4, f5, f6⟩
                · rw [f2] at he
                  refine ⟨.slice none 0 0, w, g, .inl ?_, GLe.refl _ _, ?_⟩
                  · simp only [execOp, ho, q2, Sem.run_bind, run_lookup_none hu A.blk hck f1 hi hzv, Result.andThen_ok, Sem.run_pure, Bool.false_eq_true, if_false]
                  · rw [hd.1]
                    exact h.put he hd.2 (.own _ _ _ _ (.list0 _ _ _)) (okElem_own hok _ _ _)
                · rw [f5] at he
                  split at he
                  · rename_i e sz xs hx
                    simp at hx; subst hx
                    obtain ⟨g', p1, p2⟩ := h.passEntry r1 A hf.1 hkv f4 f2 hd.2 he
                    refine ⟨me.val, w, g', .inl ?_, p1, ?_⟩
                    · simp only [execOp, ho, q2, Sem.run_bind, run_lookup_some hu A.blk hck f1, Result.andThen_ok, Sem.run_pure, Bool.false_eq_true, if_false]
                    · rw [hd.1]; exact p2
                  · cases he
                  · rename_i hx; simp at hx
              · cases he
            · cases he
          · cases he
        · cases hz
      · cases hz
    · cases hop
  · cases hop
end
end AM
