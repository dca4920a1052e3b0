/- An abstract machine for the program of the seat, and what of the given program it does, part 15 of 16. Conditions: none. -/
import Derived.Test.YtbgaambfhmnhhaaGreatDoorAm13
import Derived.ChangeSame
import Derived.OpenShut
/-! What a law's call leaves, where it returns true and keeps the memory that was there: the row's condition behind. Conditions: no slice of a type without cells. -/
namespace AM
open Go Go.ChangeShapes Go.WideShapes
/-- Types that are closed under their parts, without slices of what has no cells. -/
def okT (P : Program) (L : List TypeId) : Bool := L.all fun t => match P.underlying t with
  | some (.slice e) => decide (0 < P.cellsOf e) && L.contains e
  | some (.pointer e) => L.contains e
  | some (.struct fs) => fs.toList.all fun f => L.contains f.type
  | some (.array _ e) => L.contains e
  | some (.map _ e) => L.contains e
  | _ => true
section
variable {H : Type} {L : List TypeId} {enc : TypeId × Value → H} {P : Program} {w w' : World} {base : Nat}

theorem spare_step (hz : okT P L = true) {r r' : TypeId → List Value → Option (DataW H × List MemPlace)} (hr : ∀ t cs x, t ∈ L → r t cs = some x → r' t cs = some x) {t : TypeId} (hL : t ∈ L) {cs : List Value} {x : DataW H × List MemPlace}
    (h : DataW.trodStep enc P w base (fun _ => true) true r t cs = some x) : DataW.trodStep enc P w base (fun b => decide (b < w.heap.size)) true r' t cs = some x := by
  have hT := List.all_eq_true.1 hz t hL
  unfold DataW.trodStep at h ⊢
  split at h <;> first | exact h | skip
  case h_6 hs =>
    simp only [hs, List.contains_eq_mem, decide_eq_true_eq] at hT
    simp only [Option.map_eq_some_iff, Option.bind_eq_some_iff] at h ⊢
    obtain ⟨y, ⟨cs', hc, hy⟩, rfl⟩ := h
    exact ⟨y, ⟨cs', hc, hr _ _ _ hT hy⟩, rfl⟩
  case h_8 e a len cap hs =>
    simp only [hs, Bool.and_eq_true, List.contains_eq_mem, decide_eq_true_eq] at hT
    simp only at h ⊢
    split at h
    · rename_i hc
      rw [if_pos hc]
      simp only [if_true, Option.map_eq_some_iff, Option.bind_eq_some_iff] at h ⊢
      obtain ⟨elems, he, rest, hrest, rfl⟩ := h
      have one : ∀ (i : Nat) y, (w.cells? base (a.add (i * P.cellsOf e)) (P.cellsOf e)).bind (r e) = some y → (w.cells? base (a.add (i * P.cellsOf e)) (P.cellsOf e)).bind (r' e) = some y := fun i y hv => by
        simp only [Option.bind_eq_some_iff] at hv ⊢
        obtain ⟨cs', h1, h2⟩ := hv
        exact ⟨cs', h1, hr _ _ _ hT.2 h2⟩
      refine ⟨elems, mapM_carry he fun i y _ _ hv => one i y hv, rest, ?_, rfl⟩
      by_cases hb : a.block < w.heap.size
      · rw [if_pos (by simpa using hb)]
        exact mapM_carry hrest fun i y _ _ hv => one _ y hv
      · rw [if_neg (by simpa using hb)]
        have h0 : cap - len = 0 := by
          rcases Nat.eq_zero_or_pos (cap - len) with h0 | h0
          · exact h0
          · exfalso
            have hl : rest.length = cap - len := by simpa using mapM_some_length hrest
            have h1 := mapM_some_get hrest 0 0 (by simp [h0])
            rw [List.getElem?_eq_getElem (by omega), Option.bind_eq_some_iff] at h1
            obtain ⟨cs', h2, _⟩ := h1
            have := World.cells?_block h2 hT.1
            refine hb ?_
            unfold Addr.add at this
            split at this
            · exact this
            · exact this
        rw [h0] at hrest
        simpa using hrest
    · cases h
  case h_9 hs =>
    simp only [hs, List.all_eq_true, List.contains_eq_mem, decide_eq_true_eq] at hT
    split at h
    · rename_i hc
      rw [if_pos hc]
      simp only [Option.map_eq_some_iff] at h ⊢
      obtain ⟨xs, hx, rfl⟩ := h
      exact ⟨xs, mapM_carry hx (fun f y hf _ hv => hr _ _ _ (hT f hf) hv), rfl⟩
    · cases h
  case h_10 hs =>
    simp only [hs, List.contains_eq_mem, decide_eq_true_eq] at hT
    split at h
    · rename_i hc
      rw [if_pos hc]
      simp only [Option.map_eq_some_iff] at h ⊢
      obtain ⟨xs, hx, rfl⟩ := h
      exact ⟨xs, mapM_carry hx (fun f y _ _ hv => hr _ _ _ hT hv), rfl⟩
    · cases h
  case h_14 hs =>
    simp only [hs, List.contains_eq_mem, decide_eq_true_eq] at hT
    split at h
    · split at h
      · rename_i hc
        rw [if_pos hc]
        simp only [Option.bind_eq_some_iff] at h ⊢
        obtain ⟨entries, he, hd⟩ := h
        refine ⟨entries, mapM_carry he (fun x y _ _ hv => ?_), hd⟩
        simp only [Option.bind_eq_some_iff] at hv ⊢
        obtain ⟨key, hk, hq⟩ := hv
        refine ⟨key, hk, ?_⟩
        split at hq
        · rename_i hf
          rw [if_pos hf]
          simp only [Option.map_eq_some_iff] at hq ⊢
          obtain ⟨q, hq, rfl⟩ := hq
          exact ⟨q, hr _ _ _ hT hq, rfl⟩
        · cases hq
      · cases h
    · cases h
theorem spare_trod (hz : okT P L = true) : ∀ (n : Nat) (t : TypeId) (cs : List Value) (x : DataW H × List MemPlace), t ∈ L →
    DataW.trod enc P w base (fun _ => true) true n t cs = some x → DataW.trod enc P w base (fun b => decide (b < w.heap.size)) true n t cs = some x
  | 0, _, _, _, _, h => by simp [DataW.trod] at h
  | n + 1, t, cs, x, hL, h => by
    rw [DataW.trod_step] at h ⊢
    exact spare_step hz (spare_trod hz n) hL h
theorem later_all (hz : okT P L = true) : ∀ {ts : List TypeId} {vs : List Value} {ds : List (DataW H)} {ps : List MemPlace}, (∀ t ∈ ts, t ∈ L) → DataW.TrodAll enc P w base (fun _ => true) true ts vs ds ps → DataW.TrodAll enc P w base (fun b => decide (b < w.heap.size)) true ts vs ds ps
  | [], _, _, _, _, h => by
    obtain ⟨rfl, rfl, rfl⟩ := trodAll_nil h
    exact rfl
  | t :: _, _, _, _, hL, h => by
    obtain ⟨v, vs1, d, ds1, a, b, rfl, rfl, rfl, ⟨n, h2⟩, h3⟩ := trodAll_cons h
    exact ⟨a, b, ⟨n, spare_trod hz _ _ _ _ (hL t (by simp)) h2⟩, later_all hz (fun t ht => hL t (by simp [ht])) h3, rfl⟩
theorem sameAt_of (hh : ∀ b, b < w.heap.size → w'.heap[b]? = w.heap[b]?) {p : MemPlace} (hp : p.block < w.heap.size) : w.sameAt w' p := by
  cases p with
  | cell b off => simp only [World.sameAt, World.cell?]; rw [hh b hp]
  | map b => exact hh b hp

theorem post_of_heap {f : Func} {s : ChangeSpec} {apart fresh handsOn again : Bool} {W W' : World} {args : Array Value} {v : Value} {ds gs : List (DataW H)} {before : List MemPlace}
    (hz : okT P L = true) (hL : ∀ t ∈ f.params.toList, t ∈ L) (hvars : s.vars = [])
    (hW : DataW.Whole enc P f.params.toList s.vars apart W args.toList ds gs before)
    (hres : ∀ (b : Nat) (sp : Nat → Bool) (hd : Bool), DataW.TrodAll enc P W' b sp hd f.resultTypes.toList (v.resultList f.resultTypes.size) (s.fn H (ds ++ gs)).results [])
    (hargs : (s.fn H (ds ++ gs)).args = ds) (hfv : (s.fn H (ds ++ gs)).vars = [])
    (hh : ∀ b, b < W.heap.size → W'.heap[b]? = W.heap[b]?) (hos : W'.os = W.os) (hout : W'.output = W.output)
    (hok : ∀ (j : Nat) (t : TypeId) (r : Value), f.resultTypes[j]? = some t → (v.resultList f.resultTypes.size)[j]? = some r → Value.okWide P W' .any 0 t r) :
    s.post enc P f apart fresh handsOn again W args v W' := by
  have hlt := hW.lt
  have hW' := hW
  obtain ⟨p, q, hA, hV, rfl, hfz, hnd⟩ := hW
  rw [hvars] at hV
  obtain ⟨rfl, rfl⟩ : gs = [] ∧ q = [] := trodVars_none hV
  have hplt : ∀ x ∈ p, x.block < W.heap.size := fun x hx => hlt x (by simp [hx])
  -- places are carried along with what is read
  have carry : ∀ (sp : Nat → Bool), DataW.TrodAll enc P W 0 sp true f.params.toList args.toList ds p → DataW.TrodAll enc P W' 0 sp true f.params.toList args.toList ds p := by
    intro sp
    generalize f.params.toList = ts
    generalize args.toList = vs
    revert ts vs
    have key : ∀ (ts : List TypeId) (vs : List Value) (ds : List (DataW H)) (ps : List MemPlace), (∀ x ∈ ps, x.block < W.heap.size) → DataW.TrodAll enc P W 0 sp true ts vs ds ps → DataW.TrodAll enc P W' 0 sp true ts vs ds ps := by
      intro ts
      induction ts with
      | nil => intro vs ds ps _ h; obtain ⟨rfl, rfl, rfl⟩ := trodAll_nil h; exact rfl
      | cons t ts ih =>
        intro vs ds ps hp h
        obtain ⟨v, vs1, d, ds1, a, b, rfl, rfl, rfl, ⟨n, h2⟩, h3⟩ := trodAll_cons h
        exact ⟨a, b, ⟨n, DataW.trod_carry n _ _ _ h2 fun x hx => sameAt_of hh (hp x (by simp only [List.mem_append]; exact .inl hx))⟩, ih _ _ _ (fun x hx => hp x (by simp only [List.mem_append]; exact .inr hx)) h3, rfl⟩
    intro ts vs h
    exact key ts vs ds p hplt h
  have hA1 : DataW.TrodAll enc P W' 0 (fun b => decide (b < W.heap.size)) true f.params.toList args.toList ds p := carry _ (later_all hz hL hA)
  have hA2 : DataW.TrodAll enc P W' 0 (fun _ => true) true f.params.toList args.toList ds p := carry _ hA
  refine ⟨ds, [], p ++ [], [], p, [], hW', hres _ _ _, by rw [hargs]; exact hA1, by rw [hvars, hfv]; exact rfl, ⟨hos, hout, fun i hi => ?_⟩, fun _ => ⟨hok, _, [], ([] ++ p) ++ [], ⟨[] ++ p, [], trodAll_append hA2 (hres _ _ _), by rw [hvars]; exact (rfl : ([] : List MemPlace) = []), rfl, ?_, ?_⟩, ?_⟩⟩
  · rw [hh i hi]
    split
    · rename_i e1 e2
      rw [e1] at e2
      simp only [Option.some.injEq, Obj.cells.injEq] at e2
      obtain ⟨rfl, rfl, rfl⟩ := e2
      exact ⟨rfl, rfl, rfl, fun _ _ => rfl⟩
    · rename_i e1 e2
      rw [e1] at e2
      simp only [Option.some.injEq, Obj.map.injEq] at e2
      obtain ⟨rfl, rfl⟩ := e2
      exact .inr ⟨rfl, rfl⟩
    · rfl
  · intro b off hp
    have := hfz b off (by simpa using hp)
    have hb : b < W.heap.size := hplt (.cell b off) (by simpa using hp)
    simp only [World.frozen?] at this ⊢
    rw [hh b hb]
    exact this
  · intro ha
    simpa using hnd ha
  · intro x hx _
    simpa using hx
end
end AM
