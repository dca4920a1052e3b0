/- An abstract machine for the program of the seat, and what of the given program it does, part 7 of 16. Conditions: none. -/
import Derived.Test.YtbgaambfhmnhhaaGreatDoorAm5
import Derived.Maps.RangeRun
/-! The simulation of ranges over maps. -/
namespace AM
open Go Go.Maps Go.ChangeMaps
section
variable {P : Program} {gl : Glob} {N : Nat} {g g' : Gh} {s s' : St} {a : Act} {w w' : World} {o : Oper} {γ γ' : Gam}

theorem scal_inj {c d : AV} {u : Value} (hc : (match c with | .str _ | .int _ _ | .bool _ => true | _ => false) = true) (hd : (match d with | .str _ | .int _ _ | .bool _ => true | _ => false) = true) (h1 : PR γ c u) (h2 : PR γ' d u) : c = d := by
  cases c <;> simp at hc <;> cases d <;> simp at hd <;> cases h1 <;> cases h2 <;> rfl
theorem PRs_inj : ∀ {us : List Value} {xs ys : List AV}, (xs.all fun | .str _ | .int _ _ | .bool _ => true | _ => false) = true → (ys.all fun | .str _ | .int _ _ | .bool _ => true | _ => false) = true → PRs γ xs us → PRs γ' ys us → xs = ys
  | [], _, _, _, _, h1, h2 => by cases h1; cases h2; rfl
  | u :: us, xs, ys, hx, hy, h1, h2 => by
    cases h1 with
    | cons c cs _ _ _ p1 p2 =>
      cases h2 with
      | cons d ds _ _ _ q1 q2 =>
        rw [List.all_cons, Bool.and_eq_true] at hx hy
        rw [scal_inj hx.1 hy.1 p1 q1, PRs_inj hx.2 hy.2 p2 q2]
/-- Keys of one value are one. -/
theorem key1_inj {x y : AV} {v : Value} (hx : key1 x = true) (hy : key1 y = true) (h1 : PR γ x v) (h2 : PR γ' y v) : x = y := by
  cases x <;> simp only [key1, Bool.false_eq_true] at hx <;> cases y <;> simp only [key1, Bool.false_eq_true] at hy
  case agg.agg cs ds =>
    cases h1 with
    | agg _ us p => 
      generalize hv : Value.agg us.toArray = v at h2
      cases h2 with
      | agg _ vs q =>
        have : us = vs := by simpa using hv
        subst this
        rw [PRs_inj hx hy p q]
  all_goals first | (cases h1; cases h2; rfl) | (cases h1; cases h2)
theorem eqs_self : ∀ {cs : List AV}, (cs.all fun | .str _ | .int _ _ | .bool _ => true | _ => false) = true → eqs cs cs = some true
  | [], _ => rfl
  | c :: cs, h => by
    rw [List.all_cons, Bool.and_eq_true] at h
    have := eqs_self h.2
    cases c <;> simp at h <;> simp [eqs, eq1, this]
theorem eqs_eq : ∀ {cs ds : List AV}, eqs cs ds = some true → cs = ds
  | [], [], _ => rfl
  | [], _ :: _, h => by simp [eqs] at h
  | _ :: _, [], h => by simp [eqs] at h
  | c :: cs, d :: ds, h => by
    simp only [eqs] at h
    split at h
    · rename_i p q hp hq
      simp only [Option.some.injEq, Bool.and_eq_true] at h
      rw [h.2] at hq
      have := eqs_eq hq
      subst this
      rw [h.1] at hp
      have : c = d := by
        cases c <;> cases d <;> simp [eq1] at hp
        · rw [hp]
        · rw [hp.1, hp.2]
        · rw [hp]
      rw [this]
    · cases h
theorem keyEq_eq {x y : AV} (hx : key1 x = true) (hy : key1 y = true) (h : keyEq x y = true) : x = y := by
  cases x <;> simp only [key1, Bool.false_eq_true] at hx <;> cases y <;> simp only [key1, Bool.false_eq_true] at hy <;> simp only [keyEq, Bool.false_eq_true] at h
  · simp only [Bool.and_eq_true, beq_iff_eq] at h; rw [h.1, h.2]
  · simp only [beq_iff_eq] at h; rw [h]
  · simp only [beq_iff_eq] at h; rw [eqs_eq h]
theorem keyEq_self {x : AV} (h : key1 x = true) : keyEq x x = true := by
  cases x <;> simp only [key1, Bool.false_eq_true] at h
  · simp [keyEq]
  · simp [keyEq]
  · simp only [keyEq, eqs_self h]; rfl
/-- A key's value needs no memory. -/
theorem VR.key1 {x : AV} {v : Value} (hx : AM.key1 x = true) (h : VR g x v) : PR γ x v := by
  cases x <;> simp only [AM.key1, Bool.false_eq_true] at hx
  · have := h.int_inv; subst this; exact .int _ _
  · obtain ⟨rfl, hl⟩ := h.str_inv; exact .str _ hl
  · rename_i cs
    obtain ⟨ws, rfl, h1, h2⟩ := h.agg_inv
    refine .agg _ _ ?_
    clear h
    induction ws generalizing cs with
    | nil => cases h1; exact .nil
    | cons w ws ih =>
      cases h1 with
      | cons c cs _ _ q1 q2 =>
        rw [List.all_cons, Bool.and_eq_true] at hx
        refine .cons _ _ _ _ (h2 w (by simp)) ?_ (ih cs hx.2 q2 (fun x hx => h2 x (by simp [hx])))
        cases c <;> simp at hx
        · have := q1.bool_inv; subst this; exact .bool _
        · have := q1.int_inv; subst this; exact .int _ _
        · obtain ⟨rfl, h⟩ := q1.str_inv; exact .str _ h

def chkRng (P : Program) (N : Nat) (o : Oper) (d : Nat) (m : Opd) : Bool := dstIs N o d &&
  (match o.op with | .range t m' => chkOpd m' m && (match P.underlying t with | some (.map _ _) => true | _ => false) | _ => false)
theorem run_range_map {t kt et : TypeId} {b n : Nat} {arr : Array MapEntry} (hu : P.underlying t = some (.map kt et)) (hb : w.heap[b]? = some (.map arr n)) :
    (Instr.range t (.map (some b))).run P w = .ok (ptrTo w.heap.size 0) (w.alloc (.mapIter (some b) n #[] n)) := by
  simp only [Instr.range, Sem.run_bind, run_underlying hu, Result.andThen_ok, MapKept.run_getObj_map hb, Sem.run_pure, newObj, Sem.run, ptrTo]
  rfl
theorem run_range_nil {t kt et : TypeId} (hu : P.underlying t = some (.map kt et)) : (Instr.range t (.map none)).run P w = .ok (ptrTo w.heap.size 0) (w.alloc (.mapIter none 0 #[] 0)) := by
  simp only [Instr.range, Sem.run_bind, run_underlying hu, Result.andThen_ok, Sem.run_pure, newObj, Sem.run, ptrTo]
  rfl
theorem sim_rng {d : Nat} {m : Opd} (h : Rel P gl N g s a w) (hc : chkRng P N o d m = true) (he : ev gl s (.rng d m) = some s') : Sim1 P gl N o g a w s' := by
  simp only [chkRng, Bool.and_eq_true] at hc
  obtain ⟨hd, hop⟩ := hc
  split at hop
  · rename_i t m' ho
    simp only [Bool.and_eq_true] at hop
    obtain ⟨hm, hop⟩ := hop
    split at hop
    · rename_i kt et hu
      simp only [dstIs, Bool.and_eq_true, beq_iff_eq, decide_eq_true_eq] at hd
      simp only [ev] at he
      split at he
      · rename_i id e1
        split at he
        · rename_i n es hid
          obtain ⟨b, r1, arr, r2, r3, ⟨es', r4, r5, r6⟩, r7, r8, r9, ks, r10⟩ := h.heap _ _ hid
          obtain ⟨b', q1, q2⟩ := (evO_sound h hm e1).map_inv
          rw [r1] at q1; simp at q1; subst q1
          have A : MapAt P g w id b n es ks arr es' := ⟨r2, r3, r4, r5, r6, r7, r8, r9, r10⟩
          have hlt : b < w.heap.size := h.own b (by rw [r3]; simp)
          obtain ⟨g', s1, s2, s3⟩ := h.allocO (.mapIter (some b) n #[] n) (.iter (some id) n []) (fun g' h1 h2 h3 => by
            have hbo : g'.Ω b = .ob id := by rw [h1]; simp [Gh.setO, show b ≠ w.heap.size by omega, r3]
            have hidlt := h.rho id b r1
            refine ⟨w.heap.size, _, h3, heap_alloc_new w _, by rw [h1]; simp [Gh.setO], h2.ρ _ _ r1, hbo, rfl, rfl, ?_, arr, n, by rw [heap_alloc_old w _ (h := hlt)]; exact r2, Nat.le_refl _⟩
            have hzip : ∀ x ∈ List.zipWith (fun (e : AV × AV) (m : MapEntry) => (e.1, m.born)) es' arr.toList, ∃ (i : Nat) (e : AV × AV) (m : MapEntry), es'[i]? = some e ∧ arr.toList[i]? = some m ∧ x = (e.1, m.born) := by
              intro x hx
              obtain ⟨i, hi, hxi⟩ := List.getElem_of_mem hx
              have hi' := hi
              simp only [List.length_zipWith] at hi'
              refine ⟨i, es'[i]'(by omega), arr.toList[i]'(by omega), by simp [show i < es'.length by omega], List.getElem?_eq_getElem _, ?_⟩
              rw [← hxi]; simp
            refine ⟨List.zipWith (fun (e : AV × AV) (m : MapEntry) => (e.1, m.born)) es' arr.toList, ?_, ?_, by simp, by simp, ?_⟩
            · rw [List.pairwise_iff_getElem]
              intro i j hi hj hij
              simp only [List.length_zipWith] at hi hj
              simp only [List.getElem_zipWith]
              refine ⟨?_, ?_⟩
              · have hne : es'.Pairwise fun x y => x.1 ≠ y.1 := (r4.symm.pairwise_iff (fun {x y} (h : x.1 ≠ y.1) => h.symm)).1 A.ne
                have hn := List.pairwise_iff_getElem.1 hne i j (by omega) (by omega) hij
                cases hh : keyEq es'[i].1 es'[j].1 with
                | false => rfl
                | true =>
                  have mi := r4.mem_iff.1 (List.getElem_mem (show i < es'.length by omega))
                  have mj := r4.mem_iff.1 (List.getElem_mem (show j < es'.length by omega))
                  obtain ⟨_, m1, _, _, k1⟩ := A.other' mi
                  obtain ⟨_, m2, _, _, k2⟩ := A.other' mj
                  exact absurd ((keyEq_iff (r10 _ mi) (r10 _ mj) (VR.key (γ := g.γ) (r10 _ mi) k1.1) (VR.key (γ := g.γ) (r10 _ mj) k2.1)).1 hh) hn
              · have := List.pairwise_iff_getElem.1 r7 i j (by omega) (by omega) hij
                omega
            · intro x hx
              obtain ⟨i, e, m, h4, h5, rfl⟩ := hzip x hx
              exact ⟨r8 m (List.mem_of_getElem? h5), (r6 i e m h4 h5).2.1⟩
            · intro arr2 harr2 m hm2
              rw [heap_alloc_old w _ (h := hlt), r2] at harr2
              simp at harr2; subst harr2
              obtain ⟨i, e, h4, h5, h6, h7⟩ := A.other hm2
              refine ⟨e.1, ?_, VR.key1 h7.2.1 h7.1⟩
              have hi1 := (List.getElem?_eq_some_iff.1 h4).1
              have hi2 := (List.getElem?_eq_some_iff.1 h5).1
              refine List.mem_of_getElem? (i := i) ?_
              rw [List.getElem?_zipWith, h4, h5])
          refine ⟨ptrTo w.heap.size 0, _, g', .inl ?_, s1, ?_⟩
          · simp only [execOp, ho, q2, Sem.run_bind, run_range_map hu r2, Result.andThen_ok, Sem.run_pure]
          · rw [hd.1]
            exact s2.put he hd.2 (.ptr _ 0 _ s3) (notOwn_ptr _ _).ownR
        · cases he
      · rename_i e1
        have q := (evO_sound h hm e1).nilm_inv
        obtain ⟨g', s1, s2, s3⟩ := h.allocO (.mapIter none 0 #[] 0) (.iter none 0 []) (fun g' h1 h2 h3 => ⟨w.heap.size, _, h3, heap_alloc_new w _, by rw [h1]; simp [Gh.setO], trivial⟩)
        refine ⟨ptrTo w.heap.size 0, _, g', .inl ?_, s1, ?_⟩
        · simp only [execOp, ho, q, Sem.run_bind, run_range_nil hu, Result.andThen_ok, Sem.run_pure]
        · rw [hd.1]
          exact s2.put he hd.2 (.ptr _ 0 _ s3) (notOwn_ptr _ _).ownR
      · cases he
    · cases hop
  · cases hop

theorem mapGet_mem {k v : AV} : ∀ {es : List (AV × AV)}, mapGet es k = some v → ∃ k', (k', v) ∈ es ∧ keyEq k k' = true
  | [], h => by simp [mapGet] at h
  | (k', v') :: r, h => by
    simp only [mapGet] at h
    split at h
    · rename_i hk; simp at h; subst h; exact ⟨k', by simp, hk⟩
    · obtain ⟨k2, h1, h2⟩ := mapGet_mem h; exact ⟨k2, by simp [h1], h2⟩
def chkNxt (N : Nat) (o : Oper) (d : Nat) (it : Opd) : Bool := dstIs N o d && (match o.op with | .next it' false => chkOpd it' it | _ => false)
def chkEntr (N : Nat) (o : Oper) (d : Nat) (it : Opd) : Bool := dstIs N o d && (match o.op with | .entry it' => chkOpd it' it | _ => false)
theorem sim_entrV {d : Nat} {it : Opd} (h : Rel P gl N g s a w) (hc : chkEntr N o d it = true) (he : ev gl s (.entr d it) = some s') :
    ∃ x v, dstIs N o d = true ∧ s.put d x = some s' ∧ VR g x v ∧ NotOwn x ∧ (execOp a.eval o).run P w = .ok (.value v) w := by
  simp only [chkEntr, Bool.and_eq_true] at hc
  obtain ⟨hd, hop⟩ := hc
  split at hop
  · rename_i it' ho
    simp only [ev] at he
    split at he
    · rename_i id e1
      split at he
      · rename_i mid since seen hid
        split at he
        · rename_i n es k hmid hlast
          split at he
          · rename_i hn
            subst hn
            obtain ⟨v, hg, he⟩ := bind_some he
            obtain ⟨r, ob, p1, p2, p3, p4⟩ := h.heap _ _ hid
            obtain ⟨b', t1, t2⟩ := (evO_sound h hop e1).ptr_inv
            rw [p1] at t1; simp at t1; subst t1
            obtain ⟨b2', m1, arr', m2, m3, ⟨es', m4, m5, m6⟩, m7, m8, m9, ks, m10⟩ := h.heap _ _ hmid
            have A : MapAt P g w mid b2' n es ks arr' es' := ⟨m2, m3, m4, m5, m6, m7, m8, m9, m10⟩
            cases ob <;> simp only [IterR] at p4
            rename_i mp s0 ss last
            cases mp with
            | none => exact p4.elim
            | some bm =>
              obtain ⟨c1, c2, rfl, rfl, c5, _⟩ := p4
              rw [m1] at c1; simp at c1; subst c1
              obtain ⟨L, l1, l2, l3, l4, l5⟩ := c5
              -- the last of what was seen
              have hne : seen ≠ [] := by rintro rfl; simp at hlast
              have hlen : 0 < seen.length := List.length_pos_iff.2 hne
              have hsl : seen[seen.length - 1]? = some k := by rw [List.getLast?_eq_getElem?] at hlast; exact hlast
              have hssl : ∃ sl, ss.toList[seen.length - 1]? = some sl := by
                have : seen.length - 1 < ss.toList.length := by omega
                exact ⟨_, List.getElem?_eq_getElem this⟩
              obtain ⟨sl, hsl2⟩ := hssl
              have hkL := l4 _ _ _ hsl hsl2
              -- the entry at that key
              have hmem := mapGet_mem hg
              obtain ⟨k', hk1, hk2⟩ := hmem
              obtain ⟨i, m, hi1, hi2, hr⟩ := A.other' hk1
              obtain ⟨k2, hL2, hpr2⟩ := l5 _ m2 m (List.mem_of_getElem? hi2)
              have hkk : k2 = k' := key1_inj (l2 _ hL2).2 hr.2.1 hpr2 (VR.key1 (γ := fun _ _ => none) hr.2.1 hr.1)
              subst hkk
              -- one pair of the list
              have hpair : (k, sl) = (k2, m.born) := by
                obtain ⟨i1, hi1, e1⟩ := List.getElem_of_mem hkL
                obtain ⟨i2, hi2, e2⟩ := List.getElem_of_mem hL2
                rcases Nat.lt_trichotomy i1 i2 with hlt | rfl | hlt
                · have := (List.pairwise_iff_getElem.1 l1 i1 i2 hi1 hi2 hlt).1
                  rw [e1, e2] at this; simp only at this; rw [hk2] at this; cases this
                · rw [← e1, ← e2]
                · have := (List.pairwise_iff_getElem.1 l1 i2 i1 hi2 hi1 hlt).1
                  rw [e1, e2] at this; simp only at this
                  have e3 : k = k2 := keyEq_eq (l2 _ hkL).2 (l2 _ hL2).2 hk2
                  subst e3
                  have e4 : keyEq k k = true := hk2
                  rw [e4] at this; cases this
              obtain ⟨rfl, rfl⟩ := Prod.mk.inj hpair
              have hss : ss = (ss.pop).push m.born := by
                apply Array.ext'
                simp only [Array.toList_push, Array.toList_pop]
                have hl2 : ss.toList ≠ [] := by
                  intro e; have h9 := hlen; rw [l3, e] at h9; simp at h9
                rw [l3, ← List.getLast?_eq_getElem?] at hsl2
                rw [List.getLast?_eq_some_getLast hl2] at hsl2
                simp only [Option.some.injEq] at hsl2
                rw [← hsl2, List.dropLast_concat_getLast hl2]
              refine ⟨_, _, hd, he, .tup _ [m.key, m.val] (.cons _ _ _ _ hr.1 (.cons _ _ _ _ hr.2.2.1.noOwn .nil)), (fun _ _ _ h => by simp at h), ?_⟩
              rw [hss] at p2
              have hnd : (arr'.toList.map (·.born)).Nodup := by
                rw [List.Nodup, List.pairwise_map]
                exact m7.imp fun h => by omega
              have := run_entry_at (P := P) w r b2' _ _ arr' _ m p2 m2 (List.mem_of_getElem? hi2) hnd
              simp only [execOp, ho, t2, ptrTo, Sem.run_bind, this, Result.andThen_ok, Sem.run_pure]
          · cases he
        · cases he
      · cases he
    · cases he
  · cases hop

theorem sim_entr {d : Nat} {it : Opd} (h : Rel P gl N g s a w) (hc : chkEntr N o d it = true) (he : ev gl s (.entr d it) = some s') : Sim1 P gl N o g a w s' := by
  obtain ⟨x, v, q1, q2, q3, q4, q5⟩ := sim_entrV h hc he
  exact .value h q1 q2 q5 q3 q4

/-- A step of an iterator: nothing is left, or some entry that is left. -/
theorem nxt_run {it' : Operand} {it : Opd} {id since : Nat} {mo : Option Nat} {sn : List AV} {es : List (AV × AV)} (h : Rel P gl N g s a w) (ho : o.op = .next it' false) (hit : chkOpd it' it = true)
    {x : AV} (e1 : evO gl s.env it = some x) (hcd : cands s.heap x = some (id, mo, since, sn, es)) :
    (es = [] ∧ (execOp a.eval o).run P w = .ok (.value (.tuple #[.bool false])) w) ∨
    ∃ e ∈ es, ∃ w' v, (execOp a.eval o).run P w = .ok (.value v) w' ∧ GLe g w g w' ∧ VR g (.tup [.bool true, e.1, e.2.noOwn]) v ∧ Rel P gl N g { s with heap := s.heap.set id (.iter mo since (sn ++ [e.1])) } a w' ∧ ∀ r, g.ρ id = some r → w.grownBy w' (some r) := by
  have hrun : ∀ v r w', (a.eval it') = v → (Instr.next v false o.type).run P w = .ok r w' → (execOp a.eval o).run P w = .ok (.value r) w' := by
    intro v r w' hv hr
    simp only [execOp, ho, hv, Sem.run_bind, hr, Result.andThen_ok, Sem.run_pure]
  unfold cands at hcd
  split at hcd
  · rename_i id0
    obtain ⟨r, hr1, hr2⟩ := (evO_sound h hit e1).ptr_inv
    split at hcd
    · rename_i since0 sn0 hid
      simp at hcd
      obtain ⟨rfl, rfl, rfl, rfl, rfl⟩ := hcd
      obtain ⟨r', ob, p1, p2, p3, p4⟩ := h.heap _ _ hid
      rw [hr1] at p1; simp at p1; subst p1
      cases ob <;> simp only [IterR] at p4
      rename_i mp s0 ss last
      cases mp with
      | some bm => exact p4.elim
      | none =>
        refine .inl ⟨rfl, hrun _ _ _ hr2 ?_⟩
        simp [Instr.next, ptrTo, getObj, Sem.run, p2]
    · rename_i mid since0 sn0 hid
      split at hcd
      · rename_i n es0 hmid
        split at hcd
        · rename_i hn
          simp at hcd
          obtain ⟨rfl, rfl, rfl, rfl, rfl⟩ := hcd
          subst hn
          obtain ⟨r', ob, p1, p2, p3, p4⟩ := h.heap _ _ hid
          rw [hr1] at p1; simp at p1; subst p1
          obtain ⟨bm, m1, arr, m2, m3, ⟨es', m4, m5, m6⟩, m7, m8, m9, ks, m10⟩ := h.heap _ _ hmid
          have A : MapAt P g w mid bm n es0 ks arr es' := ⟨m2, m3, m4, m5, m6, m7, m8, m9, m10⟩
          cases ob <;> simp only [IterR] at p4
          rename_i mp s0 ss last
          cases mp with
          | none => exact p4.elim
          | some bm' =>
            obtain ⟨c1, c2, rfl, rfl, c5, c6⟩ := p4
            rw [m1] at c1; simp at c1; subst c1
            obtain ⟨L, l1, l2, l3, l4, l5⟩ := c5
            have honceK : ∀ k i j, (k, i) ∈ L → (k, j) ∈ L → i = j := by
              intro k i j h1 h2
              obtain ⟨i1, hi1, e1⟩ := List.getElem_of_mem h1
              obtain ⟨i2, hi2, e2⟩ := List.getElem_of_mem h2
              rcases Nat.lt_trichotomy i1 i2 with hlt | rfl | hlt
              · have := (List.pairwise_iff_getElem.1 l1 i1 i2 hi1 hi2 hlt).1
                rw [e1, e2] at this; simp only [keyEq_self (l2 _ h1).2] at this; cases this
              · rw [e1] at e2; simpa using e2
              · have := (List.pairwise_iff_getElem.1 l1 i2 i1 hi2 hi1 hlt).1
                rw [e1, e2] at this; simp only [keyEq_self (l2 _ h1).2] at this; cases this
            have honceB : ∀ k k' i, (k, i) ∈ L → (k', i) ∈ L → k = k' := by
              intro k k' i h1 h2
              obtain ⟨i1, hi1, e1⟩ := List.getElem_of_mem h1
              obtain ⟨i2, hi2, e2⟩ := List.getElem_of_mem h2
              rcases Nat.lt_trichotomy i1 i2 with hlt | rfl | hlt
              · have := (List.pairwise_iff_getElem.1 l1 i1 i2 hi1 hi2 hlt).2
                rw [e1, e2] at this; simp at this
              · rw [e1] at e2; simp at e2; exact e2
              · have := (List.pairwise_iff_getElem.1 l1 i2 i1 hi2 hi1 hlt).2
                rw [e1, e2] at this; simp at this
            -- an entry is left on one side where it is on the other
            have hside : ∀ (i : Nat) e m, es'[i]? = some e → arr.toList[i]? = some m → (e.1, m.born) ∈ L ∧ (ss.contains m.born = sn0.any (keyEq e.1)) := by
              intro i e m h1 h2
              have hr := m6 i e m h1 h2
              obtain ⟨k2, hL2, hpr2⟩ := l5 _ m2 m (List.mem_of_getElem? h2)
              have hkk : k2 = e.1 := key1_inj (l2 _ hL2).2 hr.2.1 hpr2 (VR.key1 (γ := fun _ _ => none) hr.2.1 hr.1)
              subst hkk
              refine ⟨hL2, ?_⟩
              rw [Bool.eq_iff_iff]
              constructor
              · intro hc
                have hc' : m.born ∈ ss.toList := by simpa using hc
                obtain ⟨j, hj, hje⟩ := List.getElem_of_mem hc'
                have hjs : j < sn0.length := by omega
                have hL := l4 j sn0[j] m.born (by simp [hjs]) (by rw [List.getElem?_eq_getElem hj, hje])
                have := honceB _ _ _ hL hL2
                rw [List.any_eq_true]
                exact ⟨sn0[j], List.getElem_mem hjs, by rw [this]; exact keyEq_self hr.2.1⟩
              · intro hc
                rw [List.any_eq_true] at hc
                obtain ⟨k, hk, hke⟩ := hc
                obtain ⟨j, hj, hje⟩ := List.getElem_of_mem hk
                have hjs : j < ss.toList.length := by omega
                have hL := l4 j k ss.toList[j] (by rw [List.getElem?_eq_getElem hj, hje]) (List.getElem?_eq_getElem hjs)
                have hkk : e.1 = k := keyEq_eq hr.2.1 (l2 _ hL).2 hke
                rw [← hkk] at hL
                have := honceK _ _ _ hL hL2
                have : m.born ∈ ss.toList := by rw [← this]; exact List.getElem_mem hjs
                simpa using this
            have hold : ∀ x ∈ arr.toList, x.born < last := m8
            rcases run_next_at (P := P) w o.type r bm last last ss arr last p2 m2 hold (Nat.le_refl _) with ⟨hz, hrn⟩ | ⟨m, hm, w1, hw1, hrn⟩
            · refine .inl ⟨?_, hrun _ _ _ hr2 (by simpa [ptrTo] using hrn)⟩
              rw [List.filter_eq_nil_iff]
              intro e he
              obtain ⟨i, m, h1, h2, hr⟩ := A.other' he
              obtain ⟨_, h3⟩ := hside i e m h1 h2
              rw [← h3]
              have hnone : leftOf arr ss = #[] := Array.eq_empty_of_size_eq_zero hz
              unfold leftOf at hnone
              rw [Array.filter_eq_empty_iff] at hnone
              have := hnone m (by have := List.mem_of_getElem? h2; simpa using this)
              simpa using this
            · have hm' : m ∈ arr.toList ∧ ss.contains m.born = false := by
                unfold leftOf at hm
                simp at hm
                refine ⟨by simpa using hm.1, by simpa using hm.2⟩
              obtain ⟨i, e, h1, h2, h3, h4⟩ := A.other hm'.1
              obtain ⟨h5, h6⟩ := hside i e m h1 h2
              have hΩ : g.Ω r = .ob id0 := p3
              have hne : id0 ≠ mid := by
                rintro rfl
                rw [hr1] at m1; simp at m1; subst m1
                rw [m2] at p2; cases p2
              have hrbm : r ≠ bm := by
                rintro rfl
                rw [m2] at p2; cases p2
              have hheap : ∀ k, k ≠ r → (setBlock w1 r (.mapIter (some bm) last (ss.push m.born) last)).heap[k]? = w.heap[k]? := by
                intro k hk
                have : w1.heap = w.heap := by rcases hw1 with rfl | rfl <;> rfl
                simp only [setBlock, this]
                simp [Array.getElem?_setIfInBounds_ne (Ne.symm hk)]
              have hheapr : (setBlock w1 r (.mapIter (some bm) last (ss.push m.born) last)).heap[r]? = some (.mapIter (some bm) last (ss.push m.born) last) := by
                have : w1.heap = w.heap := by rcases hw1 with rfl | rfl <;> rfl
                have hlt : r < w.heap.size := (Array.getElem?_eq_some_iff.1 p2).1
                simp [setBlock, this, hlt]
              have hsize : (setBlock w1 r (.mapIter (some bm) last (ss.push m.born) last)).heap.size = w.heap.size := by
                have : w1.heap = w.heap := by rcases hw1 with rfl | rfl <;> rfl
                simp [setBlock, this]
              have hos : ((setBlock w1 r (.mapIter (some bm) last (ss.push m.born) last)).os, (setBlock w1 r (.mapIter (some bm) last (ss.push m.born) last)).tape) = (w.os, w.tape) ∧ (setBlock w1 r (.mapIter (some bm) last (ss.push m.born) last)).output = w.output := by
                rcases hw1 with rfl | rfl <;> exact ⟨rfl, rfl⟩
              generalize hwd : setBlock w1 r (.mapIter (some bm) last (ss.push m.born) last) = wd at hheap hheapr hsize hrn hos
              have hg : GhLe g g := ⟨fun _ _ _ h => h, fun _ _ h => h⟩
              have hk : Kept g w g wd fun o => o ≠ .ob id0 := fun k hk => ⟨rfl, hheap k (fun e => hk (by rw [e, hΩ])), fun _ => rfl⟩
              refine .inr ⟨e, ?_, wd, _, hrun _ _ _ hr2 (by simpa [ptrTo] using hrn), ⟨hg, fun k hk => ⟨hk, hheap k (fun e => by rw [e, hΩ] at hk; cases hk), fun _ => rfl⟩, by rw [hsize]; exact Nat.le_refl _, hos.1, hos.2⟩, ?_, ?_, fun r' hr' => by rw [hr1] at hr'; simp at hr'; subst hr'; exact ⟨congrArg Prod.fst hos.1, congrArg Prod.snd hos.1, hos.2, by rw [hsize]; exact Nat.le_refl _, fun k _ hk => hheap k (fun e => hk (by rw [e]))⟩⟩
              · rw [List.mem_filter]
                refine ⟨h3, ?_⟩
                rw [← h6, hm'.2]; rfl
              · exact .tup _ [.bool true, m.key, m.val] (.cons _ _ _ _ (.pure _ _ (.bool _)) (.cons _ _ _ _ h4.1 (.cons _ _ _ _ h4.2.2.1.noOwn .nil)))
              · refine ⟨h.sorted, h.size, h.defers, fun t e he => (h.env t e he).kept hg hk (by simp) (by simp) (by simp), fun id' ob hob => ?_, fun k off v hv => ?_, fun k hk => by rw [hsize]; exact h.own k hk, h.glob, fun i b hi => by simpa using h.rho i b hi⟩
                · simp only at hob
                  rw [List.getElem?_set] at hob
                  split at hob
                  · rename_i e0; subst e0
                    split at hob
                    · simp at hob; subst hob
                      refine ⟨r, _, hr1, hheapr, hΩ, m1, c2, rfl, rfl, ⟨L, l1, l2, by simp [l3], fun i k sb hk' hs' => ?_, fun arr2 ha m' hm'' => ?_⟩, arr, last, by rw [hheap bm (Ne.symm hrbm)]; exact m2, Nat.le_refl _⟩
                      · by_cases hi : i < sn0.length
                        · rw [List.getElem?_append_left hi] at hk'
                          rw [Array.toList_push, List.getElem?_append_left (by omega)] at hs'
                          exact l4 i k sb hk' hs'
                        · rw [List.getElem?_append_right (by omega)] at hk'
                          rw [Array.toList_push, List.getElem?_append_right (by omega)] at hs'
                          have hz : i - sn0.length = 0 := by have := (List.getElem?_eq_some_iff.1 hk').1; simp at this; omega
                          rw [← l3] at hs'
                          rw [hz] at hk' hs'
                          simp at hk' hs'; subst hk' hs'
                          exact h5
                      · rw [hheap bm (Ne.symm hrbm)] at ha
                        exact l5 arr2 ha m' hm''
                    · cases hob
                  · rename_i e0
                    exact (h.heap id' ob hob).beside hg hk (fun h => e0 h.symm) hr1 (by simp [p2]) (by simp) (by simp)
                · have hv' := h.gam k off v hv
                  by_cases e0 : k = r
                  · subst e0
                    unfold World.cell? at hv'
                    rw [p2] at hv'; simp at hv'
                  · unfold World.cell? at hv' ⊢
                    rw [hheap k e0]; exact hv'
        · cases hcd
      · cases hcd
    · cases hcd
  · cases hcd
end
end AM
