/- An abstract machine for the program of the seat, and what of the given program it does, part 10 of 16. Conditions: none. -/
import Derived.Test.YtbgaambfhmnhhaaGreatDoorAm8
import Derived.CheckFast
import Derived.Orders
/-! Regions that draw their order: every order does what the order of the text does. -/
namespace AM
open Go

/-- An order that respects the edges. -/
inductive Topo (md : Region.Mode) (ops : Array Oper) : List Nat → List Nat → Prop
  | nil (done : List Nat) : Topo md ops done []
  | cons (done L : List Nat) (i : Nat) (o : Oper) (ho : ops[i]? = some o) (hi : i ∉ done) (he : ∀ e ∈ o.after.toList, Region.binds md e = true → e.on ∈ done) (hL : Topo md ops (i :: done) L) : Topo md ops done (i :: L)

theorem Topo.lt {md : Region.Mode} {ops : Array Oper} {done L : List Nat} (h : Topo md ops done L) : ∀ i ∈ L, i < ops.size := by
  induction h with
  | nil => simp
  | cons done L i o ho hi he hL ih =>
    intro j hj
    rcases List.mem_cons.1 hj with rfl | hj
    · exact (Array.getElem?_eq_some_iff.1 ho).1
    · exact ih j hj
theorem Topo.nodup {md : Region.Mode} {ops : Array Oper} {done L : List Nat} (h : Topo md ops done L) : L.Nodup ∧ ∀ i ∈ L, i ∉ done := by
  induction h with
  | nil => simp
  | cons done L i o ho hi he hL ih =>
    refine ⟨List.nodup_cons.2 ⟨fun h => (ih.2 i h) (by simp), ih.1⟩, fun j hj => ?_⟩
    rcases List.mem_cons.1 hj with rfl | hj
    · exact hi
    · exact fun h => ih.2 j hj (by simp [h])

/-- 'listed' is 'done'. -/
def LD (ops : Array Oper) (l : Array Bool) (done : List Nat) : Prop := l.size = ops.size ∧ ∀ i, l[i]? = some true ↔ i ∈ done
theorem LD.getD {ops : Array Oper} {l : Array Bool} {done : List Nat} (h : LD ops l done) (i : Nat) : l.getD i false = true ↔ i ∈ done := by
  rw [← h.2 i, Array.getD_eq_getD_getElem?]
  cases l[i]? with
  | none => simp
  | some b => simp
theorem LD.set {ops : Array Oper} {l : Array Bool} {done : List Nat} (h : LD ops l done) {i : Nat} (hi : i < ops.size) : LD ops (l.setIfInBounds i true) (i :: done) := by
  refine ⟨by simp [h.1], fun j => ?_⟩
  rw [Array.getElem?_setIfInBounds]
  by_cases e : i = j
  · subst e; simp [h.1, hi]
  · simp [e, h.2 j, Ne.symm e]
theorem ready_iff {md : Region.Mode} {ops : Array Oper} {l : Array Bool} {done : List Nat} (h : LD ops l done) (i : Nat) : i ∈ Region.ready md ops l ↔ ∃ o, ops[i]? = some o ∧ i ∉ done ∧ ∀ e ∈ o.after.toList, Region.binds md e = true → e.on ∈ done := by
  unfold Region.ready
  simp only [List.mem_filter, List.mem_range, Bool.and_eq_true, Bool.not_eq_true']
  constructor
  · rintro ⟨h1, h2, h3⟩
    refine ⟨ops[i], by simp [h1], ?_, ?_⟩
    · intro hd
      have := (h.2 i).2 hd
      rw [Array.getD_eq_getD_getElem?, this] at h2
      simp at h2
    · intro e he hb
      rw [show ops[i]? = some ops[i] by simp [h1]] at h3
      simp only [Option.map_some, Option.getD_some] at h3
      rw [Array.all_eq_true_iff_forall_mem] at h3
      have := h3 e (by simpa using he)
      rw [hb] at this
      simp only [Bool.not_true, Bool.false_or] at this
      exact (h.getD _).1 this
  · rintro ⟨o, h1, h2, h3⟩
    have hi := (Array.getElem?_eq_some_iff.1 h1).1
    refine ⟨hi, ?_, ?_⟩
    · rw [Array.getD_eq_getD_getElem?]
      have hl : i < l.size := by rw [h.1]; exact hi
      have hn : l[i]? ≠ some true := fun e => h2 ((h.2 i).1 e)
      simp only [Array.getElem?_eq_getElem hl, Option.some.injEq, ne_eq, Bool.not_eq_true] at hn
      simp [hl, hn]
    · rw [h1]
      simp only [Option.map_some, Option.getD_some]
      rw [Array.all_eq_true_iff_forall_mem]
      intro e he
      cases hb : Region.binds md e with
      | false => simp
      | true => simp [(h.getD e.on).2 (h3 e (by simpa using he) hb)]

theorem go_eq {md : Region.Mode} {ops : Array Oper} {fuel t : Nat} {l : Array Bool} : Region.linearise.go md ops (fuel + 1) t l [] = (match (Region.ready md ops l)[t % (Region.ready md ops l).length]? with
      | some i => i :: Region.linearise.go md ops fuel (t / (Region.ready md ops l).length) (l.setIfInBounds i true) []
      | none => []) := by
  simp only [Region.linearise.go]
  change (match (Region.ready md ops l)[t % (Region.ready md ops l).length]? with
      | some i => Region.linearise.go md ops fuel (t / (Region.ready md ops l).length) (l.setIfInBounds i true) [i]
      | none => [].reverse) = _
  split
  · rename_i i hi
    rw [linearise_go_acc]
    simp
  · simp
theorem go_topo {md : Region.Mode} {ops : Array Oper} : ∀ (fuel t : Nat) (l : Array Bool) (done : List Nat), LD ops l done → Topo md ops done (Region.linearise.go md ops fuel t l [])
  | 0, t, l, done, h => by simp only [Region.linearise.go]; exact .nil _
  | fuel + 1, t, l, done, h => by
    rw [go_eq]
    split
    · rename_i i hi
      obtain ⟨o, h1, h2, h3⟩ := (ready_iff h i).1 (List.mem_of_getElem? hi)
      exact .cons _ _ i o h1 h2 h3 (go_topo fuel _ _ _ (h.set (Array.getElem?_eq_some_iff.1 h1).1))
    · exact .nil _
/-- There is always one more. -/
theorem ready_of {md : Region.Mode} {ops : Array Oper} {W : List Nat} : ∀ {done0 : List Nat}, Topo md ops done0 W → ∀ {l : Array Bool} {done : List Nat}, LD ops l done → (∀ i ∈ done0, i ∈ done) → (∃ i ∈ W, i ∉ done) → Region.ready md ops l ≠ [] := by
  intro done0 hW
  induction hW with
  | nil => intro l done _ _ ⟨i, hi, _⟩; simp at hi
  | cons done0 L i o ho hi he hL ih =>
    intro l done h hsub hex
    by_cases hd : i ∈ done
    · refine ih h (fun j hj => ?_) ?_
      · rcases List.mem_cons.1 hj with rfl | hj
        · exact hd
        · exact hsub j hj
      · obtain ⟨j, hj, hj2⟩ := hex
        rcases List.mem_cons.1 hj with rfl | hj
        · exact absurd hd hj2
        · exact ⟨j, hj, hj2⟩
    · intro hr
      have : i ∈ Region.ready md ops l := (ready_iff h i).2 ⟨o, ho, hd, fun e h1 h2 => hsub _ (he e h1 h2)⟩
      rw [hr] at this
      simp at this
theorem nodup_len {n : Nat} : ∀ {L : List Nat}, L.Nodup → (∀ i ∈ L, i < n) → L.length ≤ n := by
  intro L h1 h2
  have : L ⊆ List.range n := fun i hi => List.mem_range.2 (h2 i hi)
  have h := List.Nodup.length_le_of_subset h1 this
  simpa using h
theorem full_mem {n : Nat} {L : List Nat} (h1 : L.Nodup) (h2 : ∀ i ∈ L, i < n) (h3 : L.length = n) : ∀ i, i < n → i ∈ L := by
  intro i hi
  by_cases h : i ∈ L
  · exact h
  · have : (i :: L).Nodup := List.nodup_cons.2 ⟨h, h1⟩
    have h4 := nodup_len this (n := n) (by
      intro j hj
      rcases List.mem_cons.1 hj with rfl | hj
      · exact hi
      · exact h2 j hj)
    simp at h4
    omega
theorem go_len {md : Region.Mode} {ops : Array Oper} {W : List Nat} (hW : Topo md ops [] W) (hWn : W.length = ops.size) : ∀ (fuel t : Nat) (l : Array Bool) (done : List Nat), LD ops l done → done.Nodup → (∀ i ∈ done, i < ops.size) → fuel + done.length = ops.size → (Region.linearise.go md ops fuel t l []).length = fuel
  | 0, t, l, done, h, _, _, _ => by simp [Region.linearise.go]
  | fuel + 1, t, l, done, h, hn, hd, hf => by
    have hne : Region.ready md ops l ≠ [] := by
      refine ready_of hW h (by simp) ?_
      by_cases hex : ∃ i ∈ W, i ∉ done
      · exact hex
      · have : W ⊆ done := fun i hi => by
          by_cases h : i ∈ done
          · exact h
          · exact absurd ⟨i, hi, h⟩ hex
        have := List.Nodup.length_le_of_subset hW.nodup.1 this
        omega
    rw [go_eq]
    split
    · rename_i i hi
      obtain ⟨o, h1, h2, h3⟩ := (ready_iff h i).1 (List.mem_of_getElem? hi)
      have hi' := (Array.getElem?_eq_some_iff.1 h1).1
      rw [List.length_cons, go_len hW hWn fuel _ _ (i :: done) (h.set hi') (List.nodup_cons.2 ⟨h2, hn⟩) (by
        intro j hj
        rcases List.mem_cons.1 hj with rfl | hj
        · exact hi'
        · exact hd j hj) (by simp; omega)]
    · rename_i hi
      have hp : 0 < (Region.ready md ops l).length := List.length_pos_iff.2 hne
      have := List.getElem?_eq_none_iff.1 hi
      have hm := Nat.mod_lt t hp
      omega

/-- The edges point back. -/
def backOk (md : Region.Mode) : List Oper → Nat → Bool
  | [], _ => true
  | o :: os, i => (o.after.toList.all fun e => !Region.binds md e || e.on < i) && backOk md os (i + 1)
def topoOk (md : Region.Mode) (ops : Array Oper) : Bool := backOk md ops.toList 0 || (Region.linearise md ops 0).length == ops.size
theorem back_topo {md : Region.Mode} {ops : Array Oper} : ∀ (os : List Oper) (i : Nat) (done : List Nat), (∀ k o, os[k]? = some o → ops[i + k]? = some o) → (∀ j, j ∈ done ↔ j < i) → backOk md os i = true → Topo md ops done ((List.range os.length).map (i + ·))
  | [], i, done, _, _, _ => by simp; exact .nil _
  | o :: os, i, done, h, hd, hb => by
    simp only [backOk, Bool.and_eq_true, List.all_eq_true, Bool.or_eq_true, Bool.not_eq_true', decide_eq_true_eq] at hb
    rw [List.length_cons, List.range_succ_eq_map, List.map_cons, List.map_map]
    refine .cons _ _ (i + 0) o (h 0 o (by simp)) (by simp [hd]) (fun e he hbd => ?_) ?_
    · rcases hb.1 e he with h1 | h1
      · rw [hbd] at h1; cases h1
      · exact (hd _).2 h1
    · have := back_topo os (i + 1) (i :: done) (fun k o' hk => by
        have := h (k + 1) o' (by simpa using hk)
        rw [show i + 1 + k = i + (k + 1) by omega]; exact this) (fun j => by simp [hd]; omega) hb.2
      have e : ((fun x => i + x) ∘ Nat.succ) = fun x => i + 1 + x := by funext x; simp; omega
      rw [e]
      exact this
theorem LD.init (ops : Array Oper) : LD ops (Array.replicate ops.size false) [] := ⟨by simp, fun i => by
  rw [Array.getElem?_replicate]
  split <;> simp⟩
theorem lin_spec {md : Region.Mode} {ops : Array Oper} (h : topoOk md ops = true) (t : Nat) : Topo md ops [] (Region.linearise md ops t) ∧ (Region.linearise md ops t).length = ops.size := by
  refine ⟨go_topo _ _ _ _ (LD.init ops), ?_⟩
  simp only [topoOk, Bool.or_eq_true, beq_iff_eq] at h
  have : ∃ W, Topo md ops [] W ∧ W.length = ops.size := by
    rcases h with h | h
    · exact ⟨_, back_topo ops.toList 0 [] (fun k o hk => by simpa using hk) (by simp) h, by simp⟩
    · exact ⟨_, go_topo _ _ _ _ (LD.init ops), h⟩
  obtain ⟨W, h1, h2⟩ := this
  exact go_len h1 h2 _ _ _ [] (LD.init ops) (by simp) (by simp) (by simp)
theorem binds_any {md : Region.Mode} {e : Edge} (h : Region.binds .any e = true) : Region.binds md e = true := by
  unfold Region.binds at h ⊢
  split at h <;> simp_all
theorem Topo.any {md : Region.Mode} {ops : Array Oper} {done L : List Nat} (h : Topo md ops done L) : Topo .any ops done L := by
  induction h with
  | nil => exact .nil _
  | cons done L i o ho hi he hL ih => exact .cons _ _ i o ho hi (fun e h1 h2 => he e h1 (binds_any h2)) ih
/-- What must stand before. -/
theorem before_spec {ops : Array Oper} {S : Nat → Prop} (hS : ∀ j o, S j → ops[j]? = some o → ∀ e ∈ o.after.toList, Region.binds .any e = true → S e.on) {i j : Nat} (hj : S j) (hb : ((CheckFast.beforeF ops).getD j 0).testBit i = true) : S i := by
  have key : ∀ (l : List Oper) (A : Array Nat), (∀ k o, l[k]? = some o → ops[A.size + k]? = some o) → (∀ j i, S j → (A.getD j 0).testBit i = true → S i) →
      ∀ j i, S j → ((l.foldl (fun acc o => acc.push (CheckFast.one (fun i => acc.getD i 0) o)) A).getD j 0).testBit i = true → S i := by
    intro l
    induction l with
    | nil => intro A _ h; exact h
    | cons o l ih =>
      intro A hl hA
      simp only [List.foldl_cons]
      refine ih _ (fun k o' hk => ?_) ?_
      · have := hl (k + 1) o' (by simpa using hk)
        rw [Array.size_push, show A.size + 1 + k = A.size + (k + 1) by omega]; exact this
      · intro j i hj hb
        rw [Array.getD_eq_getD_getElem?, Array.getElem?_push] at hb
        split at hb
        · rename_i e
          subst e
          have ho := hl 0 o (by simp)
          simp only [Option.getD_some] at hb
          have hall : ∀ e ∈ o.after.toList, Region.binds .any e = true → S e.on := hS _ o hj (by simpa using ho)
          unfold CheckFast.one at hb
          rw [← Array.foldl_toList] at hb
          have aux : ∀ (es : List Edge) (z : Nat), (∀ e ∈ es, Region.binds .any e = true → S e.on) → (z.testBit i = true → S i) →
              (es.foldl (fun s e => if Region.binds .any e = true then s ||| 2 ^ e.on ||| A.getD e.on 0 else s) z).testBit i = true → S i := by
            intro es
            induction es with
            | nil => intro z _ hz h; exact hz h
            | cons e es ih2 =>
              intro z hall hz
              simp only [List.foldl_cons]
              refine ih2 _ (fun e' he' => hall e' (by simp [he'])) ?_
              intro hz2
              split at hz2
              · rename_i hbd
                have he := hall e (by simp) hbd
                simp only [Nat.testBit_or, Bool.or_eq_true, Nat.testBit_two_pow, decide_eq_true_eq] at hz2
                rcases hz2 with (h | h) | h
                · exact hz h
                · rw [← h]; exact he
                · exact hA _ _ he h
              · exact hz hz2
          exact aux _ 0 hall (by simp) hb
        · exact hA j i hj (by rw [Array.getD_eq_getD_getElem?]; exact hb)
  rw [CheckFast.beforeF_eq] at hb
  unfold Region.before at hb
  rw [← Array.foldl_toList] at hb
  exact key ops.toList #[] (fun k o hk => by simpa using hk) (by simp) j i hj hb

section
variable {P : Program} {gl : Glob} {D : Dets}
/-- An operation comes forward. -/
theorem runR_front {b : It} {T2 : List It} {K : St → Prop} (hb : kls b.o ≠ 9) : ∀ (T1 : List It), (∀ a ∈ T1, kls a.o ≠ 9 ∧ indep a b = true) → ∀ {s : St}, s.env.Sorted → runR P gl D (T1 ++ b :: T2) s K → runR P gl D (b :: (T1 ++ T2)) s K
  | [], _, s, _, h => h
  | a :: T1, h, s, hs, hr => by
    obtain ⟨h1, h2⟩ := h a (by simp)
    rw [List.cons_append, runR_cons] at hr
    have hr2 := itX_mono (K' := fun s' => runR P gl D (b :: (T1 ++ T2)) s' K) (fun s' hh => runR_front hb T1 (fun a ha => h a (by simp [ha])) hh.2 hh.1) (itX_sorted h1 hs hr)
    have hr3 : itX P gl D s (fun s1 => itX P gl D s1 (fun s2 => runR P gl D (T1 ++ T2) s2 K) b) a := itX_mono (fun s' hh => runR_cons.1 hh) hr2
    have := swapIt h1 hb hs h2 hr3
    rw [List.cons_append]
    exact runR_cons.2 (itX_mono (fun s' hh => runR_cons.2 hh) this)

/-- Which pairs may be exchanged, or stand as the edges say. -/
def PairsOk (ops : Array Oper) (its : List It) : Prop := ∀ i j a b, i < j → its[i]? = some a → its[j]? = some b → indep a b = true ∨ ((CheckFast.beforeF ops).getD j 0).testBit i = true
theorem runR_topo {ops : Array Oper} {its : List It} {K : St → Prop} (hn : its.length = ops.size) (hk : ∀ it ∈ its, kls it.o ≠ 9) (hp : PairsOk ops its) :
    ∀ {done L : List Nat}, Topo .any ops done L → ∀ {T : List Nat} {s : St}, T.Pairwise (· < ·) → (∀ x, x ∈ T ↔ x ∈ L) → (∀ j ∈ done, ∀ o, ops[j]? = some o → ∀ e ∈ o.after.toList, Region.binds .any e = true → e.on ∈ done) → s.env.Sorted →
      runR P gl D (T.filterMap (its[·]?)) s K → runR P gl D (L.filterMap (its[·]?)) s K := by
  intro done L hL
  induction hL with
  | nil =>
    intro T s hT hm _ _ hr
    have : T = [] := by
      cases T with
      | nil => rfl
      | cons x T => have := (hm x).1 (by simp); simp at this
    subst this
    exact hr
  | cons done L i o ho hi he hL ih =>
    intro T s hT hm hd hs hr
    have hiT : i ∈ T := (hm i).2 (by simp)
    obtain ⟨T1, T2, rfl⟩ := List.append_of_mem hiT
    have hil := (Array.getElem?_eq_some_iff.1 ho).1
    have hiti : its[i]? = some (its[i]'(by omega)) := by simp [show i < its.length by omega]
    generalize its[i]'(by omega) = b at hiti
    rw [List.pairwise_append, List.pairwise_cons] at hT
    obtain ⟨hT1, ⟨hT2a, hT2⟩, hT12⟩ := hT
    have hnd := (Topo.cons done L i o ho hi he hL).nodup
    rw [List.filterMap_append, List.filterMap_cons, hiti] at hr
    simp only at hr
    have hfr := runR_front (P := P) (gl := gl) (D := D) (hk b (List.mem_of_getElem? hiti)) (T1.filterMap (its[·]?)) (by
      intro a ha
      rw [List.mem_filterMap] at ha
      obtain ⟨t, ht, hta⟩ := ha
      refine ⟨hk a (List.mem_of_getElem? hta), ?_⟩
      have hlt := hT12 t ht i (by simp)
      rcases hp t i a b hlt hta hiti with h | h
      · exact h
      · have : t ∈ i :: done := before_spec (S := fun j => j ∈ i :: done) (fun j o' hj ho' e he' hb => by
          rcases List.mem_cons.1 hj with rfl | hj
          · rw [ho] at ho'; cases ho'
            exact List.mem_cons.2 (.inr (he e he' hb))
          · exact List.mem_cons.2 (.inr (hd j hj o' ho' e he' hb))) (by simp) h
        rcases List.mem_cons.1 this with e | h
        · omega
        · have : t ∈ i :: L := (hm t).1 (by simp [ht])
          exact absurd h (hnd.2 t this)) hs hr
    rw [List.filterMap_cons, hiti]
    simp only
    rw [runR_cons] at hfr ⊢
    refine itX_mono (fun s' hh => ?_) (itX_sorted (hk b (List.mem_of_getElem? hiti)) hs hfr)
    obtain ⟨hh, hs'⟩ := hh
    rw [← List.filterMap_append] at hh
    refine ih (T := T1 ++ T2) ?_ ?_ ?_ hs' hh
    · exact List.pairwise_append.2 ⟨hT1, hT2, fun a ha b hb => hT12 a ha b (by simp [hb])⟩
    · intro x
      have hx := hm x
      simp only [List.mem_append, List.mem_cons] at hx ⊢
      constructor
      · intro h
        have h2 : x = i ∨ x ∈ L := hx.1 (by rcases h with h | h <;> simp [h])
        rcases h2 with rfl | h2
        · rcases h with h | h
          · exact absurd (hT12 x h x (by simp)) (Nat.lt_irrefl _)
          · exact absurd (hT2a x h) (Nat.lt_irrefl _)
        · exact h2
      · intro h
        have h2 := hx.2 (.inr h)
        rcases h2 with h2 | rfl | h2
        · exact .inl h2
        · exact absurd h (List.nodup_cons.1 hnd.1).1
        · exact .inr h2
    · intro j hj o' ho' e he' hb
      rcases List.mem_cons.1 hj with rfl | hj
      · rw [ho] at ho'; cases ho'
        exact List.mem_cons.2 (.inr (he e he' hb))
      · exact List.mem_cons.2 (.inr (hd j hj o' ho' e he' hb))

def chkPairs (b : List Nat) (rest : List It) : Nat → List It → Bool
  | _, [] => true
  | i, a :: its => (match rest with | [] => true | _ :: r => (List.zip b r).all (fun p => p.1.testBit i || indep a p.2) && chkPairs b.tail r (i + 1) its)
/-- Every pair of operations may be exchanged, or an edge holds it. -/
def drawOk (ops : Array Oper) (its : List It) : Bool := topoOk .any ops && topoOk .text ops && topoOk .gc ops && its.all (fun it => kls it.o != 9) && chkPairs (CheckFast.beforeF ops).toList.tail its 0 its
theorem chkPairs_spec {B : List Nat} {its : List It} (hB : B.length = its.length) : ∀ (k : Nat) (l : List It), l = its.drop k → chkPairs (B.drop (k + 1)) l k l = true → ∀ i j a b, k ≤ i → i < j → its[i]? = some a → its[j]? = some b → (B.getD j 0).testBit i = true ∨ indep a b = true := by
  intro k l
  induction l generalizing k with
  | nil =>
    intro hl _ i j a b hki hij ha hb
    have : its.length ≤ k := by
      have := congrArg List.length hl
      simp at this; omega
    have := (List.getElem?_eq_some_iff.1 ha).1
    omega
  | cons x l ih =>
    intro hl hc i j a b hki hij ha hb
    simp only [chkPairs, Bool.and_eq_true, List.all_eq_true] at hc
    have hl2 : l = its.drop (k + 1) := by
      have := congrArg List.tail hl
      simpa [List.tail_drop] using this
    by_cases e : k = i
    · subst e
      have hx : x = a := by
        have : (its.drop k)[0]? = some x := by rw [← hl]; rfl
        rw [List.getElem?_drop, Nat.add_zero, ha] at this
        exact (Option.some.inj this).symm
      subst hx
      have hjB : j < B.length := by rw [hB]; exact (List.getElem?_eq_some_iff.1 hb).1
      have hm : (B.getD j 0, b) ∈ List.zip (B.drop (k + 1)) l := by
        refine List.mem_of_getElem? (i := j - (k + 1)) ?_
        rw [List.getElem?_zip_eq_some]
        rw [hl2, List.getElem?_drop, List.getElem?_drop, show k + 1 + (j - (k + 1)) = j by omega]
        refine ⟨?_, hb⟩
        rw [List.getD_eq_getElem?_getD, List.getElem?_eq_getElem hjB]; rfl
      have := hc.1 _ hm
      simpa [Bool.or_eq_true] using this
    · refine ih (k + 1) hl2 ?_ i j a b (by omega) hij ha hb
      have := hc.2
      rwa [List.tail_drop] at this
theorem drawOk_spec {ops : Array Oper} {its : List It} (hn : its.length = ops.size) (h : drawOk ops its = true) : (∀ md, topoOk md ops = true) ∧ (∀ it ∈ its, kls it.o ≠ 9) ∧ PairsOk ops its := by
  simp only [drawOk, Bool.and_eq_true, List.all_eq_true, bne_iff_ne] at h
  obtain ⟨⟨⟨⟨h1, h2⟩, h3⟩, h4⟩, h5⟩ := h
  refine ⟨fun md => by cases md <;> assumption, h4, ?_⟩
  intro i j a b hij ha hb
  have hlen : (CheckFast.beforeF ops).toList.length = its.length := by
    rw [CheckFast.beforeF_eq]
    unfold Region.before
    rw [hn, ← Array.foldl_toList]
    have : ∀ (l : List Oper) (A : Array Nat) (f : Array Nat → Oper → Nat), (l.foldl (fun acc o => acc.push (f acc o)) A).size = A.size + l.length := by
      intro l
      induction l with
      | nil => intro A f; simp
      | cons o l ih => intro A f; simp only [List.foldl_cons]; rw [ih]; simp; omega
    simpa using this ops.toList #[] _
  have hB : (CheckFast.beforeF ops).toList.tail = (CheckFast.beforeF ops).toList.drop (0 + 1) := by simp
  rw [hB] at h5
  rcases chkPairs_spec hlen 0 its (by simp) h5 i j a b (by omega) hij ha hb with h | h
  · right
    rwa [Array.getD_eq_getD_getElem?, ← Array.getElem?_toList, ← List.getD_eq_getElem?_getD]
  · exact .inl h
theorem sched_sound {ops : Array Oper} {its : List It} {K : St → Prop} {m : Bool} {s : St} (hn : its.length = ops.size) (hd : drawOk ops its = true) (hs : s.env.Sorted) (t : Nat) (hr : runR P gl D its s K) :
    runR P gl D ((Region.schedule m ops t).filterMap (its[·]?)) s K := by
  obtain ⟨h1, h2, h3⟩ := drawOk_spec hn hd
  have key : ∀ md t, runR P gl D ((Region.linearise md ops t).filterMap (its[·]?)) s K := by
    intro md t
    obtain ⟨q1, q2⟩ := lin_spec (h1 md) t
    have hr2 : runR P gl D ((List.range ops.size).filterMap (its[·]?)) s K := by
      have : (List.range ops.size).filterMap (its[·]?) = its := by
        rw [← hn]
        clear hr hn hd h2 h3
        induction its with
        | nil => rfl
        | cons x xs ih =>
          rw [List.length_cons, List.range_succ_eq_map, List.filterMap_cons]
          simp only [List.getElem?_cons_zero, List.filterMap_map]
          congr 1
      rw [this]; exact hr
    exact runR_topo hn h2 h3 q1.any List.pairwise_lt_range (fun x => ⟨fun hx => full_mem q1.nodup.1 q1.lt q2 x (List.mem_range.1 hx), fun hx => List.mem_range.2 (q1.lt x hx)⟩) (by simp) hs hr2
  unfold Region.schedule
  split <;> exact key _ _
end
section
variable (P : Program) (N : Nat)
def chk : Code → SCode → Bool
  | c, .asm _ s => chk c s
  | c, .drop _ s => chk c s
  | c, .kill _ s => chk c s
  | c, .frz _ e sz s => okElem P e sz && chk c s
  | c, .frzb _ _ e sz s => okElem P e sz && chk c s
  | .skip, .skip => true
  | .region _ ops draw, .reg its _ => chkIts P N ops ops.toList its && (!draw || drawOk ops its)
  | .seq a b, .seq a' b' => chk a a' && chk b b'
  | .cond c a b, .cond c' a' b' => chkOpd c c' && chk a a' && chk b b'
  | .block i c, .block i' c' => i == i' && chk c c'
  | .loop c, .loop c' => chk c c'
  | .exit i, .exit j => i == j
  | .ret, .ret => true
  | _, .bad => true
  | _, _ => false
end
end AM
/-! The abstract machine's code is the model's: branches, loops, bodies. -/
namespace AM
open Go
section
variable {P : Program} {gl : Glob} {D : Dets} {N : Nat} {g g' : Gh} {s s' : St} {a : Act} {w w' : World} {o : Oper}

def exOf : Ex → Exit
  | .normal => .normal
  | .exit i => .exit i
  | .ret => .ret
/-- What holds after code. -/
def PostX (P : Program) (gl : Glob) (N : Nat) (g : Gh) (w : World) (Q : Ex → St → Prop) (e : Exit) (a' : Act) (w' : World) : Prop :=
  ∃ ex s' g', e = exOf ex ∧ Q ex s' ∧ GLe g w g' w' ∧ Rel P gl N g' s' a' w'

theorem linearise_lt {md : Region.Mode} {ops : Array Oper} : ∀ (fuel t : Nat) (l : Array Bool) (acc : List Nat), (∀ i ∈ acc, i < ops.size) → ∀ i ∈ Region.linearise.go md ops fuel t l acc, i < ops.size
  | 0, _, _, acc, h, i, hi => h i (by simpa [Region.linearise.go] using hi)
  | fuel + 1, t, l, acc, h, i, hi => by
    simp only [Region.linearise.go] at hi
    split at hi
    · rename_i j hj
      refine linearise_lt fuel _ _ (j :: acc) (fun k hk => ?_) i hi
      rcases List.mem_cons.1 hk with rfl | hk
      · have := List.mem_of_getElem? hj
        simp only [List.mem_filter, List.mem_range] at this
        exact this.1
      · exact h k hk
    · exact h i (by simpa using hi)
theorem schedule_lt {m : Bool} {ops : Array Oper} {t : Nat} : ∀ i ∈ Region.schedule m ops t, i < ops.size := by
  intro i hi
  unfold Region.schedule at hi
  split at hi <;> exact linearise_lt _ _ _ [] (by simp) i hi

theorem VR.list_len {own : Option Nat} {sz : Nat} {xs : List AV} {v : Value} (h : VR g (.list own sz xs) v) : xs.length ≤ M := by
  have hp : ∀ {v}, PR g.γ (.list none sz xs) v → xs.length ≤ M := fun h => by
    cases h with
    | list0 => simp
    | list _ _ _ _ _ h => exact h
  cases h with
  | pure _ _ h => cases own with
    | none => exact hp h
    | some e => cases h
  | own _ _ _ _ h => exact hp h
theorem VR.str_len {l : List UInt8} {v : Value} (h : VR g (.str l) v) : l.length ≤ M := by
  cases h with
  | pure _ _ h => cases h with
    | str _ h => exact h

theorem Rel.kill (h : Rel P gl N g s a w) (t : Nat) : Rel P gl N g (killS s t) a w := by
  unfold killS
  split
  · exact h.dead _
  · exact h.dead _
  · exact h
theorem exec_sound : ∀ (sc : SCode) (c : Code), chk P N c sc = true → ∀ (Q : Ex → St → Prop) (s : St) (g : Gh) (a : Act) (w : World), Rel P gl N g s a w → exec P gl D sc s Q → c.wp P (PostX P gl N g w Q) a w := by
  intro sc
  induction sc with
  | skip =>
    intro c hc Q s g a w h hx
    cases c <;> simp [chk] at hc
    exact wp_skip ⟨.normal, s, g, rfl, hx, .refl _ _, h⟩
  | ret =>
    intro c hc Q s g a w h hx
    cases c <;> simp [chk] at hc
    exact wp_ret ⟨.ret, s, g, rfl, hx, .refl _ _, h⟩
  | exit i =>
    intro c hc Q s g a w h hx
    cases c <;> simp [chk] at hc
    subst hc
    exact wp_exit ⟨.exit _, s, g, rfl, hx, .refl _ _, h⟩
  | asm t sc ih =>
    intro c hc Q s g a w h hx
    have hc' : chk P N c sc = true := by cases c <;> simpa [chk] using hc
    simp only [exec] at hx
    split at hx
    · rename_i own sz xs ht
      obtain ⟨v, _, h2, _⟩ := h.env _ _ ht
      exact ih c hc' Q s g a w h (hx h2.list_len)
    · rename_i l ht
      obtain ⟨v, _, h2, _⟩ := h.env _ _ ht
      exact ih c hc' Q s g a w h (hx h2.str_len)
    · exact hx.elim
  | drop ts sc ih =>
    intro c hc Q s g a w h hx
    have hc' : chk P N c sc = true := by cases c <;> simpa [chk] using hc
    exact ih c hc' Q _ g a w (h.close ts) hx
  | kill t sc ih =>
    intro c hc Q s g a w h hx
    have hc' : chk P N c sc = true := by cases c <;> simpa [chk] using hc
    exact ih c hc' Q _ g a w (h.kill t) hx
  | frz t e sz sc ih =>
    intro c hc Q s g a w h hx
    have hc' : okElem P e sz = true ∧ chk P N c sc = true := by cases c <;> simpa [chk] using hc
    simp only [exec] at hx
    split at hx
    · rename_i s1 hs1
      obtain ⟨g1, q1, q2⟩ := h.frz hc'.1 hs1
      refine wp_mono (ih c hc'.2 Q s1 g1 a w q2 hx) ?_
      rintro e a1 w1 ⟨ex, s2, g2, rfl, hq, hle, h2⟩
      exact ⟨ex, s2, g2, rfl, hq, q1.trans hle, h2⟩
    · exact hx.elim
  | frzb t off e sz sc ih =>
    intro c hc Q s g a w h hx
    have hc' : okElem P e sz = true ∧ chk P N c sc = true := by cases c <;> simpa [chk] using hc
    simp only [exec] at hx
    split at hx
    · rename_i s1 hs1
      obtain ⟨g1, q1, q2⟩ := h.frzb hc'.1 hs1
      refine wp_mono (ih c hc'.2 Q s1 g1 a w q2 hx) ?_
      rintro e a1 w1 ⟨ex, s2, g2, rfl, hq, hle, h2⟩
      exact ⟨ex, s2, g2, rfl, hq, q1.trans hle, h2⟩
    · exact hx.elim
  | bad => intro c hc Q s g a w h hx; exact hx.elim
  | reg its dr =>
    intro c hc Q s g a w h hx
    cases c <;> simp only [chk, Bool.false_eq_true] at hc
    rename_i id ops draw
    simp only [Bool.and_eq_true] at hc
    obtain ⟨hl, hall⟩ := chkIts_spec hc.1
    simp only [Array.length_toList] at hl
    have hidx : ∀ i, i < ops.size → ∃ o it, ops[i]? = some o ∧ its[i]? = some it ∧ chk1 P N ops o it = true := fun i hi => by
      refine ⟨ops[i], its[i]'(by omega), by simp [hi], by simp [show i < its.length by omega], hall i _ _ (by simp [hi]) (by simp [show i < its.length by omega])⟩
    have hQ : ∀ s' g' a' w', (fun s' : St => Q .normal { s' with env := s'.env.close dr }) s' → GLe g w g' w' → Rel P gl N g' s' a' w' → PostX P gl N g w Q .normal a' w' :=
      fun s' g' a' w' hk hle hr => ⟨.normal, _, g', rfl, hk, hle, hr.close dr⟩
    cases draw with
    | false =>
      refine wp_region (runR_wp (D := D) hQ _ (fun i hi => hidx i (by simpa using hi)) s g a w h (.refl _ _) ?_)
      rw [hl, filterMap_range]
      exact hx
    | true =>
      simp only [Bool.not_true, Bool.false_or] at hc
      refine wp_region_draw fun t => ?_
      have hQ' : ∀ s' g' a' w', (fun s' : St => Q .normal { s' with env := s'.env.close dr }) s' → GLe g { w with drawn := w.drawn + 1 } g' w' → Rel P gl N g' s' a' w' → PostX P gl N g w Q .normal a' w' :=
        fun s' g' a' w' hk hle hr => hQ s' g' a' w' hk ⟨⟨hle.γ, hle.ρ⟩, hle.outer, hle.size, hle.os, hle.out⟩ hr
      exact runR_wp (D := D) hQ' _ (fun i hi => hidx i (schedule_lt i hi)) s g a _ h.drawn (.refl _ _) (sched_sound hl.symm hc.2 h.sorted t hx)
  | seq x y ihx ihy =>
    intro c hc Q s g a w h hx
    cases c <;> simp only [chk, Bool.false_eq_true] at hc
    simp only [Bool.and_eq_true] at hc
    refine wp_seq (wp_mono (ihx _ hc.1 _ s g a w h hx) ?_)
    rintro e a1 w1 ⟨ex, s1, g1, rfl, hq, hle, h1⟩
    cases ex with
    | normal =>
      refine wp_mono (ihy _ hc.2 Q s1 g1 a1 w1 h1 hq) ?_
      rintro e a2 w2 ⟨ex, s2, g2, rfl, hq2, hle2, h2⟩
      exact ⟨ex, s2, g2, rfl, hq2, hle.trans hle2, h2⟩
    | exit i => exact ⟨.exit i, s1, g1, rfl, hq, hle, h1⟩
    | ret => exact ⟨.ret, s1, g1, rfl, hq, hle, h1⟩
  | cond x y z ihy ihz =>
    intro c hc Q s g a w h hx
    cases c <;> simp only [chk, Bool.false_eq_true] at hc
    simp only [Bool.and_eq_true] at hc
    simp only [exec] at hx
    split at hx
    · rename_i t ht
      have hv := evO_sound h hc.1.1 ht
      refine wp_cond hv.bool_inv ?_
      cases t with
      | true => exact ihy _ hc.1.2 Q s g a w h hx
      | false => exact ihz _ hc.2 Q s g a w h hx
    · exact hx.elim
  | block i x ih =>
    intro c hc Q s g a w h hx
    cases c <;> simp only [chk, Bool.false_eq_true] at hc
    simp only [Bool.and_eq_true, beq_iff_eq] at hc
    obtain ⟨rfl, hc⟩ := hc
    refine wp_block (wp_mono (ih _ hc _ s g a w h hx) ?_)
    rintro e a1 w1 ⟨ex, s1, g1, rfl, hq, hle, h1⟩
    cases ex with
    | normal => exact ⟨.normal, s1, g1, rfl, hq, hle, h1⟩
    | exit j =>
      simp only [exOf, Exit.inBlock]
      simp only at hq
      split <;> rename_i hj
      · rw [if_pos hj] at hq; exact ⟨.normal, s1, g1, rfl, hq, hle, h1⟩
      · rw [if_neg hj] at hq; exact ⟨.exit j, s1, g1, rfl, hq, hle, h1⟩
    | ret => exact ⟨.ret, s1, g1, rfl, hq, hle, h1⟩
  | loop x ih =>
    intro c hc Q s g a w h hx
    cases c <;> simp only [chk, Bool.false_eq_true] at hc
    rename_i c
    intro b k cs
    let X : St → Prop := fun s => ∀ g1 a1 w1, Rel P gl N g1 s a1 w1 → GLe g w g1 w1 →
      ∃ e a' w', PostX P gl N g w Q e a' w' ∧ Arrives P (lone (b.at a1 (.code c :: .inLoop c :: k)) cs w1) b k cs e a' w'
    have key : X s := by
      refine hx X fun s hF g1 a1 w1 h1 hle => ?_
      obtain ⟨e, a2, w2, ⟨ex, s2, g2, rfl, hq, hle2, h2⟩, harr⟩ := ih c hc _ s g1 a1 w1 h1 hF b (.inLoop c :: k) cs
      cases ex with
      | normal =>
        obtain ⟨e3, a3, w3, hq3, harr3⟩ := hq g2 a2 w2 h2 (hle.trans hle2)
        exact ⟨e3, a3, w3, hq3, .of_steps (Steps.trans harr (.one step_inLoop)) harr3⟩
      | exit i => exact ⟨_, a2, w2, ⟨.exit i, s2, g2, rfl, hq, hle.trans hle2, h2⟩, .pass (x := .inLoop c) rfl (fun _ _ => .inl (by simp [exOf])) harr⟩
      | ret => exact ⟨_, a2, w2, ⟨.ret, s2, g2, rfl, hq, hle.trans hle2, h2⟩, .pass (x := .inLoop c) rfl (fun _ _ => .inl (by simp [exOf])) harr⟩
    obtain ⟨e, a', w', hq, harr⟩ := key g a w h (.refl _ _)
    exact ⟨e, a', w', hq, .of_steps (.one step_loop) harr⟩
end
end AM
/-! The abstract machine's functions are the model's: results, bodies, calls with and without the heap. -/
namespace AM
open Go
def chkRes1 (P : Program) : ResultVar → RV → Bool
  | .tmp t, .t t' => t == t'
  | .cell x t, .b x' sz => x == x' && (match P.info? t with | some i => i.size == sz | none => false) && (match P.underlying t with | some (.struct _) => true | _ => false)
  | _, _ => false
def chkRes (P : Program) : List ResultVar → List RV → Bool
  | [], [] => true
  | r :: rs, v :: vs => chkRes1 P r v && chkRes P rs vs
  | _, _ => false
/-- The function f has k arguments, the given code and results. -/
def chkFn (P : Program) (f k : Nat) (sc : SCode) (rvs : List RV) : Bool :=
  chkCallee P f && match P.funcs[f]? with
  | some fn => (match fn.body with | some c => chk P fn.ntmps c sc && chkRes P fn.results.toList rvs && decide (k ≤ fn.ntmps) | none => false)
  | none => false
def pEnv : Nat → List AV → Env
  | _, [] => []
  | i, x :: xs => (i, .v x) :: pEnv (i + 1) xs
/-- What a call without the heap may give. -/
def AV.res : AV → Bool
  | .list _ _ _ => true
  | .tup vs => vs.all AV.arg
  | x => x.arg
/-- What must hold at the end of a body. -/
def endQ (K : St → Prop) : Ex → St → Prop
  | .exit _, _ => False
  | _, s => K s

/-- One result. -/
def resF (tmps : Array Value) : ResultVar → Sem Value
  | .tmp t => pure (tmps.getD t undef)
  | .cell x t => do loadVar t (← asAddr (tmps.getD x undef))
theorem results_eq (fn : Func) (tmps : Array Value) : results fn tmps = (fn.results.mapM (resF tmps)) >>= fun vs => pure (if h : vs.size = 1 then vs[0] else .tuple vs) := by
  unfold results
  refine congrArg (fun x : Sem (Array Value) => x >>= _) (congrArg (fun F => Array.mapM F fn.results) (funext fun r => ?_))
  cases r <;> rfl
section
variable {P : Program} {gl : Glob} {D : Dets} {N : Nat} {g g' : Gh} {s s' : St} {a : Act} {w w' : World} {o : Oper}

theorem res1_sound (h : Rel P gl N g s a w) {r : ResultVar} {rv : RV} {x : AV} (hc : chkRes1 P r rv = true) (hx : retV1 s.env rv = some x) :
    ∃ v, (resF a.tmps r).run P w = .ok v w ∧ VR g x v ∧ (NotOwn x ∨ ∃ t, rv = .t t ∧ OwnR P g w (.var t) x v) := by
  cases r with
  | tmp t =>
    cases rv with
    | b => simp [chkRes1] at hc
    | t t' =>
      simp [chkRes1] at hc
      subst hc
      simp only [retV1] at hx
      split at hx
      · rename_i y hy
        simp at hx; subst hx
        obtain ⟨v, h1, h2, h3⟩ := h.env _ _ hy
        have : a.tmps.getD t undef = v := by simp [Array.getD_eq_getD_getElem?, h1]
        exact ⟨v, by simp [resF, this], h2, .inr ⟨t, rfl, h3⟩⟩
      · cases hx
  | cell c t =>
    cases rv with
    | t => simp [chkRes1] at hc
    | b c' sz =>
      simp only [chkRes1, Bool.and_eq_true, beq_iff_eq] at hc
      obtain ⟨⟨rfl, hsz⟩, hk⟩ := hc
      simp only [retV1] at hx
      split at hx
      · rename_i cs hcs
        split at hx
        · rename_i hlen
          simp at hx; subst hx
          obtain ⟨b, h1, h2⟩ := h.env _ _ hcs
          obtain ⟨ws, q1, q2, q3, q4⟩ := h2.cells (off := 0) (n := cs.length)
          simp only [List.drop_zero, List.take_length] at q1 q2
          split at hsz
          · rename_i i hi
            simp at hsz
            split at hk
            · rename_i fs hu
              have hp : a.tmps.getD c undef = ptrTo b 0 := by simp [Array.getD_eq_getD_getElem?, h1]
              have hl := run_load_cells (P := P) (w := w) (b := b) (off := 0) hi hu (by omega) q4 (.inl ⟨fs, rfl⟩)
              refine ⟨.agg ws.toArray, ?_, .agg _ _ q2.noOwn q3, .inl fun e sz xs h => by simp at h⟩
              simp only [resF, hp]
              simpa [Instr.loadAt, Instr.sureAddr, ptrTo, asAddr] using hl
            · cases hk
          · cases hsz
        · cases hx
      · cases hx
theorem results_sound (h : Rel P gl N g s a w) : ∀ {rs : List ResultVar} {rvs : List RV} {xs : List AV}, chkRes P rs rvs = true → retVs s.env rvs = some xs →
    xs.length = rvs.length ∧ ∃ vs, (rs.mapM (resF a.tmps)).run P w = .ok vs w ∧ VRs g xs vs
  | [], [], xs, _, hx => by simp [retVs] at hx; subst hx; exact ⟨rfl, [], by simp, .nil⟩
  | [], _ :: _, _, hc, _ => by simp [chkRes] at hc
  | _ :: _, [], _, hc, _ => by simp [chkRes] at hc
  | r :: rs, rv :: rvs, xs, hc, hx => by
    simp only [chkRes, Bool.and_eq_true] at hc
    simp only [retVs] at hx
    split at hx
    · rename_i y ys h1 h2
      simp at hx; subst hx
      obtain ⟨v, q1, q2, _⟩ := res1_sound h hc.1 h1
      obtain ⟨hl, vs, p1, p2⟩ := results_sound h hc.2 h2
      refine ⟨by simp [hl], v :: vs, ?_, .cons _ _ _ _ q2.noOwn p2⟩
      rw [List.mapM_cons, Sem.run_bind, q1]
      simp only [Result.andThen_ok, Sem.run_bind]
      rw [p1]
      simp
    · cases hx
theorem retV_sound (h : Rel P gl N g s a w) {fn : Func} {rvs : List RV} {x : AV} (hc : chkRes P fn.results.toList rvs = true) (hx : retV s.env rvs = some x) :
    ∃ v, (results fn a.tmps).run P w = .ok v w ∧ VR g x v ∧ (NotOwn x ∨ ∃ t, rvs = [.t t] ∧ OwnR P g w (.var t) x v) := by
  rw [results_eq, Array.mapM_eq_mapM_toList]
  unfold retV at hx
  split at hx
  · rename_i rv
    generalize fn.results.toList = rs at hc
    match rs, hc with
    | [r], hc =>
      simp only [chkRes, Bool.and_true] at hc
      obtain ⟨v, h1, h2, h3⟩ := res1_sound h hc hx
      refine ⟨v, ?_, h2, h3.imp id fun ⟨t, q1, q2⟩ => ⟨t, by rw [q1], q2⟩⟩
      simp [h1]
    | _ :: _ :: _, hc => simp [chkRes] at hc
  · rename_i hne
    rw [Option.map_eq_some_iff] at hx
    obtain ⟨xs, hxs, rfl⟩ := hx
    obtain ⟨hlen, vs, h1, h2⟩ := results_sound h hc hxs
    refine ⟨.tuple vs.toArray, ?_, .tup _ _ h2, .inl fun e sz xs h => by simp at h⟩
    have hl : vs.length ≠ 1 := by
      intro hl
      rw [h2.get.1, hlen] at hl
      match rvs, hl with
      | [rv], _ => exact hne rv rfl
    simp [h1, hl]

theorem pEnv_get : ∀ (xs : List AV) (i t : Nat), Env.get (pEnv i xs) t = if i ≤ t then (xs[t - i]?).map .v else none
  | [], i, t => by simp [pEnv, Env.get]
  | x :: xs, i, t => by
    simp only [pEnv, Env.get, pEnv_get xs (i + 1) t]
    by_cases h1 : t = i
    · subst h1; simp
    · by_cases h2 : i ≤ t
      · have : t - i = (t - (i + 1)) + 1 := by omega
        simp [h1, h2, show i + 1 ≤ t by omega, this]
      · simp [h1, h2, show ¬ i + 1 ≤ t by omega]
theorem pEnv_lb : ∀ (xs : List AV) (i : Nat), ∀ p ∈ pEnv i xs, i ≤ p.1
  | [], _, p, h => by simp [pEnv] at h
  | x :: xs, i, p, h => by
    simp only [pEnv, List.mem_cons] at h
    rcases h with rfl | h
    · simp
    · have := pEnv_lb xs (i + 1) p h; omega
theorem pEnv_sorted : ∀ (xs : List AV) (i : Nat), (pEnv i xs).Pairwise fun p q => p.1 < q.1
  | [], _ => .nil
  | x :: xs, i => by
    simp only [pEnv, List.pairwise_cons]
    exact ⟨fun p hp => by have := pEnv_lb xs (i + 1) p hp; simp; omega, pEnv_sorted xs (i + 1)⟩

theorem chkFn_spec {f k : Nat} {sc : SCode} {rvs : List RV} (h : chkFn P f k sc rvs = true) : chkCallee P f = true ∧ ∃ fn c, P.funcs[f]? = some fn ∧ fn.body = some c ∧
    chk P fn.ntmps c sc = true ∧ chkRes P fn.results.toList rvs = true ∧ k ≤ fn.ntmps := by
  simp only [chkFn, Bool.and_eq_true] at h
  obtain ⟨h0, h⟩ := h
  split at h
  · rename_i fn hf
    split at h
    · rename_i c hb
      simp only [Bool.and_eq_true, decide_eq_true_eq] at h
      exact ⟨h0, fn, c, hf, hb, h.1.1, h.1.2, h.2⟩
    · cases h
  · cases h

/-- A body over a relation of its beginning: it returns what the abstract machine says. -/
theorem body_calls {f : Nat} {sc : SCode} {rvs : List RV} {xs : List AV} {vs : List Value} {H : List AObj} {Q : St → Prop} (hf : chkFn P f xs.length sc rvs = true)
    (h : Rel P gl 0 g (heapSt H) noAct w) (hv : VRs g xs vs) (ho : ∀ (i : Nat) x v, xs[i]? = some x → vs[i]? = some v → OwnR P g w (.var i) x v)
    (he : exec P gl D sc ⟨pEnv 0 xs, H⟩ (endQ Q)) (hQ : ∀ s, Q s → (retV s.env rvs).isSome = true) :
    Calls P f vs.toArray w fun e w' => ∃ v r s' g' a' N', e = .returned v ∧ Q s' ∧ retV s'.env rvs = some r ∧ GLe g w g' w' ∧ Rel P gl N' g' s' a' w' ∧ VR g' r v ∧
      (NotOwn r ∨ ∃ t, rvs = [.t t] ∧ OwnR P g' w' (.var t) r v) := by
  obtain ⟨_, fn, c, h1, h2, h3, h4, h5⟩ := chkFn_spec hf
  have hlen : vs.length = xs.length := hv.get.1
  have hR : Rel P gl fn.ntmps g ⟨pEnv 0 xs, H⟩ { tmps := vs.toArray ++ Array.replicate (fn.ntmps - vs.toArray.size) undef, defers := [] } w := by
    refine ⟨pEnv_sorted xs 0, by simp; omega, rfl, fun t e he => ?_, h.heap, h.gam, h.own, h.glob, h.rho⟩
    rw [pEnv_get] at he
    simp only [Nat.zero_le, if_true, Nat.sub_zero, Option.map_eq_some_iff] at he
    obtain ⟨x, hx, rfl⟩ := he
    obtain ⟨v, q1, q2⟩ := hv.get.2 t x hx
    have hlt : t < vs.length := by
      rcases Nat.lt_or_ge t vs.length with h | h
      · exact h
      · simp [List.getElem?_eq_none h] at q1
    exact ⟨v, by simp [Array.getElem?_append, hlt, ← q1], q2, ho t x v hx q1⟩
  refine calls_of_wp h1 h2 (wp_mono (exec_sound sc c h3 _ _ g _ w hR he) ?_)
  rintro e a1 w1 ⟨ex, s1, g1, rfl, hq, hle, hr⟩
  have key : Q s1 → a1.defers = [] ∧ ∃ v, (results fn a1.tmps).run P w1 = .ok v w1 ∧ ∃ v' r s' g' a' N', Ending.returned v = .returned v' ∧ Q s' ∧ retV s'.env rvs = some r ∧ GLe g w g' w1 ∧ Rel P gl N' g' s' a' w1 ∧ VR g' r v' ∧
      (NotOwn r ∨ ∃ t, rvs = [.t t] ∧ OwnR P g' w1 (.var t) r v') := fun hq => by
    obtain ⟨r, hr'⟩ := Option.isSome_iff_exists.1 (hQ s1 hq)
    obtain ⟨v, q1, q2, q3⟩ := retV_sound hr h4 hr'
    exact ⟨hr.defers, v, q1, v, r, s1, g1, a1, _, rfl, hq, hr', hle, hr, q2, q3⟩
  cases ex with
  | normal => exact key hq
  | exit i => exact hq.elim
  | ret => exact key hq
end
end AM
/-! The abstract machine's calls from its bodies. -/
namespace AM
open Go
section
variable {P : Program} {gl : Glob} {D : Dets} {N : Nat} {g g' : Gh} {s s' : St} {a : Act} {w w' : World} {o : Oper}

theorem CallT.intro {f : Nat} {sc : SCode} {rvs : List RV} {xs : List AV} {H : List AObj} {K : AV → List AObj → Prop} (hf : chkFn P f xs.length sc rvs = true)
    (he : exec P gl D sc ⟨pEnv 0 xs, H⟩ (endQ fun s => ∃ r, retV s.env rvs = some r ∧ K r s.heap)) : CallT P gl f xs H K := by
  refine ⟨(chkFn_spec hf).1, fun g w vs h hv ho => (body_calls hf h hv ho he fun s ⟨r, hr, _⟩ => by simp [hr]).mono ?_⟩
  rintro e w' ⟨v, r, s', g', a', N', rfl, ⟨r', hr', hK⟩, hr, hle, hrel, hvr, hown⟩
  rw [hr] at hr'; simp at hr'; subst hr'
  let Ω : Nat → Owner := fun b => match g'.Ω b with
    | .outer => .outer
    | .ob id => .ob id
    | .oc id i => .oc id i
    | .var _ => .var 0
    | _ => .none
  have hlt : ∀ b, Ω b ≠ .none → b < w'.heap.size := fun b hb => hrel.own b fun e => hb (by simp [Ω, e])
  refine ⟨v, r, s'.heap, ⟨g'.γ, Ω, g'.ρ⟩, rfl, hK, ⟨⟨hle.γ, hle.ρ⟩, fun b hb => ?_, hle.size, hle.os, hle.out⟩, hrel.heapOver Ω ?_ hlt, hvr.mono (⟨fun _ _ _ h => h, fun _ _ h => h⟩ : GhLe g' ⟨g'.γ, Ω, g'.ρ⟩), ?_⟩
  · obtain ⟨q1, q2, q3⟩ := hle.outer b hb
    exact ⟨by simp [Ω, q1], q2, q3⟩
  · rintro b (⟨id, e⟩ | ⟨id, i, e⟩) <;> simp [Ω, e]
  · rcases hown with hn | ⟨t, _, hown⟩
    · exact hn.ownR
    · intro e sz ys hx
      obtain ⟨j, z, us, m1, m2, m3, m4, m5, m6, m7, m8, m9⟩ := hown e sz ys hx
      exact ⟨j, z, us, m1, m2, m3, m4, m5, m6, m7, m8, fun b hb => ⟨by simp [Ω, (m9 b hb).1], (m9 b hb).2⟩⟩

theorem VR.arg_gv {x : AV} {v : Value} (h : VR g x v) (hx : x.arg = true) (g' : Gh) (hg : g'.γ = g.γ) : VR g' x v :=
  (arg_vr h hx).mono ⟨by rw [hg]; exact fun _ _ _ h => h, fun _ _ h => by cases h⟩
theorem VRs.arg_gv {xs : List AV} {vs : List Value} (h : VRs g xs vs) (hx : xs.all AV.arg = true) (g' : Gh) (hg : g'.γ = g.γ) : VRs g' xs vs :=
  (args_vrs h hx).mono ⟨by rw [hg]; exact fun _ _ _ h => h, fun _ _ h => by cases h⟩
theorem VR.res_gv {x : AV} {v : Value} (h : VR g x v) (hx : x.res = true) (g' : Gh) (hg : g'.γ = g.γ) : VR g' x v := by
  cases x with
  | list own sz xs =>
    cases h with
    | pure _ _ h => exact .pure _ _ (by rw [hg]; exact h)
    | own e _ _ _ h => exact .own _ _ _ _ (by rw [hg]; exact h)
  | tup vs =>
    cases h with
    | pure _ _ h => cases h
    | tup _ ws h => exact .tup _ _ (h.arg_gv hx g' hg)
  | _ => exact h.arg_gv hx g' hg
theorem arg_notOwn {x : AV} (h : x.arg = true) : NotOwn x := by
  intro e sz xs hx; subst hx; simp [AV.arg, AV.pure, AV.pure1] at h

theorem Det.intro {f : Nat} {sc : SCode} {rvs : List RV} {xs : List AV} {r : AV} (hf : chkFn P f xs.length sc rvs = true) (hx : xs.all AV.arg = true) (hr : r.res = true)
    (he : exec P gl D sc ⟨pEnv 0 xs, []⟩ (endQ fun s => retV s.env rvs = some r)) : Det P gl f xs r := by
  intro γ w vs hgam hglob hv
  let g : Gh := ⟨γ, fun b => if b < w.heap.size then .outer else .none, fun _ => none⟩
  have hrel : Rel P gl 0 g (heapSt []) noAct w :=
    ⟨.nil, rfl, rfl, fun t e he => by simp [heapSt, Env.get] at he, fun id ob hob => by simp [heapSt] at hob, hgam, fun b hb => by
      by_cases h : b < w.heap.size
      · exact h
      · simp [g, h] at hb, hglob, fun id b h => by cases h⟩
  have hno : ∀ x ∈ xs, NotOwn x := fun x hx' => arg_notOwn (List.all_eq_true.1 hx x hx')
  refine (body_calls hf hrel (hv.arg_gv hx g rfl) (fun i x v h _ => (hno x (List.mem_of_getElem? h)).ownR) he fun s h => by simp [h]).mono ?_
  rintro e w' ⟨v, r', s', g', a', N', rfl, hr', hr'', hle, hrel', hvr, hown⟩
  rw [hr'] at hr''; simp at hr''; subst hr''
  have hout : ∀ b, b < w.heap.size → g'.Ω b = .outer ∧ w'.heap[b]? = w.heap[b]? ∧ ∀ o, g'.γ b o = γ b o := fun b hb => hle.outer b (by simp [g, hb])
  refine ⟨v, g'.γ, rfl, hle.γ, hle.size, fun b hb => (hout b hb).2, ⟨hle.os, hle.out⟩, hrel'.gam, hvr.res_gv hr _ rfl, ?_⟩
  rcases hown with hn | ⟨t, _, hown⟩
  · exact hn.ownR
  · intro e sz ys hx
    obtain ⟨j, z, us, m1, m2, m3, m4, m5, m6, m7, m8, m9⟩ := hown e sz ys hx
    refine ⟨j, z, us, m1, m2, m3, m4, m5, m6, m7, m8, fun b hb => ⟨?_, (m9 b hb).2⟩⟩
    have q := (m9 b hb).1
    have : ¬ b < w.heap.size := fun h => by rw [(hout b h).1] at q; cases q
    simp [gr, this]

/-- What holds after code, weakened. -/
theorem exec_mono : ∀ (sc : SCode) {s : St} {Q Q' : Ex → St → Prop}, exec P gl D sc s Q → (∀ e s, Q e s → Q' e s) → exec P gl D sc s Q'
  | .skip, _, _, _, h, hq => hq _ _ h
  | .reg _ _, _, _, _, h, hq => runR_mono (fun _ h => hq _ _ h) h
  | .seq x y, _, _, _, h, hq => exec_mono x h fun e s h => by
    cases e with
    | normal => exact exec_mono y h hq
    | exit i => exact hq _ _ h
    | ret => exact hq _ _ h
  | .cond c x y, s, _, _, h, hq => by
    simp only [exec] at h ⊢
    split at h
    · split at h
      · rw [if_pos (by assumption)]; exact exec_mono x h hq
      · rw [if_neg (by assumption)]; exact exec_mono y h hq
    · exact h.elim
  | .block i c, _, _, _, h, hq => exec_mono c h fun e s h => by
    cases e with
    | normal => exact hq _ _ h
    | exit j =>
      simp only at h ⊢
      split at h
      · rw [if_pos (by assumption)]; exact hq _ _ h
      · rw [if_neg (by assumption)]; exact hq _ _ h
    | ret => exact hq _ _ h
  | .loop c, _, _, _, h, hq => fun X hX => h X fun s hs => hX s (exec_mono c hs fun e s h => by
    cases e with
    | normal => exact h
    | exit i => exact hq _ _ h
    | ret => exact hq _ _ h)
  | .exit _, _, _, _, h, hq => hq _ _ h
  | .ret, _, _, _, h, hq => hq _ _ h
  | .asm t c, s, _, _, h, hq => by
    simp only [exec] at h ⊢
    split at h
    · exact fun hl => exec_mono c (h hl) hq
    · exact fun hl => exec_mono c (h hl) hq
    · exact h.elim
  | .drop _ c, _, _, _, h, hq => exec_mono c h hq
  | .kill _ c, _, _, _, h, hq => exec_mono c h hq
  | .frz t e sz c, s, _, _, h, hq => by
    simp only [exec] at h ⊢
    split at h
    · exact exec_mono c h hq
    · exact h.elim
  | .frzb t off e sz c, s, _, _, h, hq => by
    simp only [exec] at h ⊢
    split at h
    · exact exec_mono c h hq
    · exact h.elim
  | .bad, _, _, _, h, _ => h.elim
/-- A loop: one round, then the loop again. -/
theorem exec_loop {c : SCode} {s : St} {Q : Ex → St → Prop} (h : exec P gl D c s fun e s' => match e with | .normal => exec P gl D (.loop c) s' Q | e => Q e s') : exec P gl D (.loop c) s Q := by
  intro X hX
  refine hX s (exec_mono c h fun e s' h => ?_)
  cases e with
  | normal => exact h X hX
  | exit i => exact h
  | ret => exact h
end
end AM
/-! An executable interpreter of the abstract machine, with sets of outcomes; it is sound. -/
namespace AM
open Go

mutual
def AV.beq : AV → AV → Bool
  | .bool a, .bool b => a == b
  | .int k a, .int k' b => decide (k = k') && a == b
  | .str a, .str b => a == b
  | .nilp, .nilp => true
  | .ptr a o, .ptr b o' => a == b && o == o'
  | .cptr a, .cptr b => AV.beqs a b
  | .list e sz a, .list e' sz' b => e == e' && sz == sz' && AV.beqs a b
  | .map a, .map b => a == b
  | .nilm, .nilm => true
  | .fn f a, .fn f' b => f == f' && AV.beqs a b
  | .nilf, .nilf => true
  | .nili, .nili => true
  | .nils a, .nils b => a == b
  | .nilc a, .nilc b => a == b
  | .sl a b c d, .sl a' b' c' d' => a == a' && b == b' && c == c' && d == d'
  | .agg a, .agg b => AV.beqs a b
  | .tup a, .tup b => AV.beqs a b
  | _, _ => false
def AV.beqs : List AV → List AV → Bool
  | [], [] => true
  | x :: r, y :: r' => AV.beq x y && AV.beqs r r'
  | _, _ => false
end
mutual
theorem AV.beq_eq : ∀ (x y : AV), AV.beq x y = true → x = y
  | .bool a, y, h => by cases y <;> simp [AV.beq] at h; rw [h]
  | .int k a, y, h => by cases y <;> simp [AV.beq] at h; rw [h.1, h.2]
  | .str a, y, h => by cases y <;> simp [AV.beq] at h; rw [h]
  | .nilp, y, h => by cases y <;> simp [AV.beq] at h; rfl
  | .ptr a o, y, h => by cases y <;> simp [AV.beq] at h; rw [h.1, h.2]
  | .cptr a, y, h => by cases y <;> simp [AV.beq] at h; rw [AV.beqs_eq a _ h]
  | .list e sz a, y, h => by cases y <;> simp [AV.beq] at h; rw [AV.beqs_eq a _ h.2, h.1.1, h.1.2]
  | .map a, y, h => by cases y <;> simp [AV.beq] at h; rw [h]
  | .nilm, y, h => by cases y <;> simp [AV.beq] at h; rfl
  | .fn f a, y, h => by cases y <;> simp [AV.beq] at h; rw [AV.beqs_eq a _ h.2, h.1]
  | .nilf, y, h => by cases y <;> simp [AV.beq] at h; rfl
  | .nili, y, h => by cases y <;> simp [AV.beq] at h; rfl
  | .nils a, y, h => by cases y <;> simp [AV.beq] at h; rw [h]
  | .nilc a, y, h => by cases y <;> simp [AV.beq] at h; rw [h]
  | .sl a b c d, y, h => by cases y <;> simp [AV.beq] at h; rw [h.1.1.1, h.1.1.2, h.1.2, h.2]
  | .agg a, y, h => by cases y <;> simp [AV.beq] at h; rw [AV.beqs_eq a _ h]
  | .tup a, y, h => by cases y <;> simp [AV.beq] at h; rw [AV.beqs_eq a _ h]
theorem AV.beqs_eq : ∀ (xs ys : List AV), AV.beqs xs ys = true → xs = ys
  | [], ys, h => by cases ys <;> simp [AV.beqs] at h; rfl
  | x :: xs, ys, h => by
    cases ys <;> simp [AV.beqs] at h
    rw [AV.beq_eq x _ h.1, AV.beqs_eq xs _ h.2]
end
def beqKV : List (AV × AV) → List (AV × AV) → Bool
  | [], [] => true
  | (k, v) :: r, (k', v') :: r' => AV.beq k k' && AV.beq v v' && beqKV r r'
  | _, _ => false
theorem beqKV_eq : ∀ (xs ys : List (AV × AV)), beqKV xs ys = true → xs = ys
  | [], ys, h => by cases ys <;> simp [beqKV] at h; rfl
  | (k, v) :: xs, ys, h => by
    cases ys <;> simp [beqKV] at h
    rename_i y ys
    obtain ⟨k', v'⟩ := y
    simp at h
    rw [AV.beq_eq k _ h.1.1, AV.beq_eq v _ h.1.2, beqKV_eq xs _ h.2]
def AObj.beq : AObj → AObj → Bool
  | .cells a, .cells b => AV.beqs a b
  | .buf e a, .buf e' b => e == e' && AV.beqs a b
  | .map n a, .map n' b => n == n' && beqKV a b
  | .iter m s a, .iter m' s' b => m == m' && s == s' && AV.beqs a b
  | .dead, .dead => true
  | _, _ => false
theorem AObj.beq_eq (x y : AObj) (h : AObj.beq x y = true) : x = y := by
  cases x <;> cases y <;> simp [AObj.beq] at h
  · rw [AV.beqs_eq _ _ h]
  · rw [h.1, AV.beqs_eq _ _ h.2]
  · rw [h.1, beqKV_eq _ _ h.2]
  · rw [h.1.1, h.1.2, AV.beqs_eq _ _ h.2]
  · rfl
def heapBeq : List AObj → List AObj → Bool
  | [], [] => true
  | x :: r, y :: r' => x.beq y && heapBeq r r'
  | _, _ => false
theorem heapBeq_eq : ∀ (xs ys : List AObj), heapBeq xs ys = true → xs = ys
  | [], ys, h => by cases ys <;> simp [heapBeq] at h; rfl
  | x :: xs, ys, h => by
    cases ys <;> simp [heapBeq] at h
    rw [AObj.beq_eq x _ h.1, heapBeq_eq xs _ h.2]
abbrev ROut := AV × List AObj
def outBeq (a b : ROut) : Bool := a.1.beq b.1 && heapBeq a.2 b.2
theorem outBeq_eq {a b : ROut} (h : outBeq a b = true) : a = b := by
  simp [outBeq] at h
  exact Prod.ext (AV.beq_eq _ _ h.1) (heapBeq_eq _ _ h.2)
def dedup : List ROut → List ROut
  | [] => []
  | x :: r => let r' := dedup r; if r'.any (outBeq x) then r' else x :: r'
theorem mem_dedup {x : ROut} : ∀ {l : List ROut}, x ∈ l → x ∈ dedup l
  | [], h => by simp at h
  | y :: r, h => by
    simp only [dedup]
    rcases List.mem_cons.1 h with rfl | h
    · split
      · rename_i ha
        rw [List.any_eq_true] at ha
        obtain ⟨z, hz, hxz⟩ := ha
        rw [outBeq_eq hxz]; exact hz
      · simp
    · have := mem_dedup h
      split
      · exact this
      · exact List.mem_cons_of_mem _ this

def bindL {α β : Type} (f : α → Option (List β)) : List α → Option (List β)
  | [] => some []
  | a :: r => match f a with
    | none => none
    | some x => match r with
      | [] => some x
      | _ :: _ => match bindL f r with | none => none | some y => some (x ++ y)
theorem bindL_mem {α β : Type} {f : α → Option (List β)} : ∀ {l : List α} {out : List β}, bindL f l = some out → ∀ a ∈ l, ∃ x, f a = some x ∧ ∀ b ∈ x, b ∈ out
  | [], _, _, a, ha => by simp at ha
  | a :: r, out, h, a', ha => by
    simp only [bindL] at h
    split at h
    · cases h
    · rename_i x hx
      split at h
      · simp at h; subst h
        simp at ha; subst ha
        exact ⟨x, hx, fun b hb => hb⟩
      · split at h
        · cases h
        · rename_i y hy
          simp at h; subst h
          rcases List.mem_cons.1 ha with rfl | ha
          · exact ⟨x, hx, fun b hb => by simp [hb]⟩
          · obtain ⟨z, h1, h2⟩ := bindL_mem hy a' ha
            exact ⟨z, h1, fun b hb => by simp [h2 b hb]⟩

/-- The same, of a list that is not empty. -/
def bindN {α β : Type} (f : α → Option (List β)) : List α → Option (List β)
  | [] => none
  | a :: r => bindL f (a :: r)
theorem bindN_ne {α β : Type} {f : α → Option (List β)} {l : List α} {out : List β} (h : bindN f l = some out) : bindL f l = some out ∧ ∃ a, a ∈ l := by
  cases l with
  | nil => cases h
  | cons a r => exact ⟨h, a, by simp⟩
abbrev Caller := Nat → List AV → List AObj → Option (List ROut)
section
variable (gl : Glob) (call : Caller)
def fin (s : St) (d : Option Nat) (p : ROut) : Option (List St) := (({ s with heap := p.2 } : St).putO d p.1).map fun s => [s]
def allDead : List AObj → Bool
  | [] => true
  | .dead :: r => allDead r
  | _ => false
def isPre : List AObj → List AObj → Bool
  | [], r => allDead r
  | x :: r, y :: r' => x.beq y && isPre r r'
  | _ :: _, [] => false
def finR (s : St) (d : Option Nat) (p : ROut) : Option (List St) := if isPre s.heap p.2 then fin s d p else none
def detOf (f : Nat) (xs : List AV) : Option AV := match call f xs [] with
  | some ((r, _) :: rest) => if r.res && rest.all (fun p => p.1.beq r) then some r else none
  | _ => none
def opC (s : St) : SOp → Option (List St)
  | .callP d f xs => match evOs gl s.env xs with
    | some vs => if (vs.map AV.noOwn).all AV.arg then match detOf call f (vs.map AV.noOwn) with
      | some r => (s.putO d r).map fun s => [s]
      | none => none
      else none
    | none => none
  | .callI d f xs => match evOs gl s.env xs with
    | some vs => (call f (vs.map AV.noOwn) s.heap).bind (bindN (fin s d))
    | none => none
  | .callR d f xs => match evOs gl s.env xs with
    | some vs => (call f (vs.map AV.noOwn) s.heap).bind (bindN (finR s d))
    | none => none
  | .callV d x xs => match evO gl s.env x, evOs gl s.env xs with
    | some (.fn f caps), some vs => (call f (vs.map AV.noOwn ++ caps.map AV.noOwn) s.heap).bind (bindN (fin s d))
    | _, _ => none
  | .callG d f u xs => match Env.get s.env u, evOs gl s.env xs with
    | some (.v (.list (some e) sz ys)), some vs => (call f (.list (some e) sz ys :: vs.map AV.noOwn) s.heap).bind (bindN (fin { s with env := s.env.ins u (.v (.list none sz ys)) } d))
    | some (.v v), some vs => (call f (v.noOwn :: vs.map AV.noOwn) s.heap).bind (bindN (fin s d))
    | _, _ => none
  | .nxt d it => match (evO gl s.env it).bind (cands s.heap) with
    | some (id, m, since, seen, es) => match es with
      | [] => (s.put d (.tup [.bool false])).map fun s => [s]
      | e0 :: es => bindL (fun e => (({ s with heap := s.heap.set id (.iter m since (seen ++ [e.1])) } : St).put d (.tup [.bool true, e.1, e.2.noOwn])).map fun s => [s]) (e0 :: es)
    | none => none
  | o => (ev gl s o).map fun s => [s]
def regC : List It → St → Option (List St)
  | [], s => some [s]
  | it :: r, s => match guardV s.env it.g with
    | some true => match opC gl call s it.o with
      | some [s'] => regC r s'
      | some l => bindL (regC r) l
      | none => none
    | some false => match dstOf it.o with
      | some d => match s.put d (.tup []) with | some s' => regC r s' | none => none
      | none => regC r s
    | none => none
def loopC (body : St → Option (List (Ex × St))) : Nat → St → Option (List (Ex × St))
  | 0, _ => none
  | n + 1, s => match body s with
    | some [(.normal, s')] => loopC body n s'
    | some l => bindL (fun p => match p.1 with | .normal => loopC body n p.2 | e => some [(e, p.2)]) l
    | none => none
def blkE (id : Nat) : Ex × St → Ex × St
  | (.exit i, s) => if i = id then (.normal, s) else (.exit i, s)
  | p => p
def execC (lf : Nat) : SCode → St → Option (List (Ex × St))
  | .skip, s => some [(.normal, s)]
  | .reg its dr, s => (regC gl call its s).map fun l => l.map fun s => (.normal, { s with env := s.env.close dr })
  | .seq a b, s => match execC lf a s with
    | some [(.normal, s')] => execC lf b s'
    | some l => bindL (fun p => match p.1 with | .normal => execC lf b p.2 | e => some [(e, p.2)]) l
    | none => none
  | .cond c a b, s => match evO gl s.env c with
    | some (.bool t) => if t then execC lf a s else execC lf b s
    | _ => none
  | .block id c, s => (execC lf c s).map fun l => l.map (blkE id)
  | .loop c, s => loopC (execC lf c) lf s
  | .exit id, s => some [(.exit id, s)]
  | .ret, s => some [(.ret, s)]
  | .asm t c, s => match Env.get s.env t with
    | some (.v (.list _ _ _)) => execC lf c s
    | some (.v (.str _)) => execC lf c s
    | _ => none
  | .drop ts c, s => execC lf c { s with env := s.env.close ts }
  | .frz t e sz c, s => match frzS s t e sz with | some s => execC lf c s | none => none
  | .frzb t off e sz c, s => match frzbS s t off e sz with | some s => execC lf c s | none => none
  | .kill t c, s => execC lf c (killS s t)
  | .bad, _ => none
def finE (rvs : List RV) : Ex × St → Option (List ROut)
  | (.exit _, _) => none
  | (_, s) => (retV s.env rvs).map fun r => [(r, s.heap)]
end
abbrev Tab := Nat → Option (SCode × List RV × Nat)
section
variable (gl : Glob) (T : Tab) (orc : Caller) (lf : Nat)
def callC : Nat → Caller
  | 0 => fun _ _ _ => none
  | n + 1 => fun f xs H => match orc f xs H with
    | some l => some l
    | none => match T f with
      | some (sc, rvs, k) => if xs.length = k then (match (execC gl (callC n) lf sc ⟨pEnv 0 xs, H⟩).bind (bindL (finE rvs)) with
        | some [p] => some [p]
        | some l => some (dedup l)
        | none => none) else none
      | none => none
end

section
variable {P : Program} {gl : Glob} {D : Dets} {call : Caller}
/-- What is said of calls holds. -/
def CallerOk (P : Program) (gl : Glob) (call : Caller) : Prop := ∀ f xs H outs, call f xs H = some outs → CallT P gl f xs H fun r H' => (r, H') ∈ outs
def TabOk (P : Program) (T : Tab) : Prop := ∀ f sc rvs k, T f = some (sc, rvs, k) → chkFn P f k sc rvs = true

theorem Det.of_callT {f : Nat} {xs : List AV} {r : AV} (h : CallT P gl f xs [] fun r' _ => r' = r) (hx : xs.all AV.arg = true) (hr : r.res = true) : Det P gl f xs r := by
  intro γ w vs hgam hglob hv
  let g : Gh := ⟨γ, fun b => if b < w.heap.size then .outer else .none, fun _ => none⟩
  have hrel : Rel P gl 0 g (heapSt []) noAct w :=
    ⟨.nil, rfl, rfl, fun t e he => by simp [heapSt, Env.get] at he, fun id ob hob => by simp [heapSt] at hob, hgam, fun b hb => by
      by_cases h : b < w.heap.size
      · exact h
      · simp [g, h] at hb, hglob, fun id b h => by cases h⟩
  have hno : ∀ x ∈ xs, NotOwn x := fun x hx' => arg_notOwn (List.all_eq_true.1 hx x hx')
  refine (h.2 g w vs hrel (hv.arg_gv hx g rfl) (fun i x v h _ => (hno x (List.mem_of_getElem? h)).ownR)).mono ?_
  rintro e w' ⟨v, r', H', g', rfl, rfl, hle, hrel', hvr, hown⟩
  have hout : ∀ b, b < w.heap.size → g'.Ω b = .outer ∧ w'.heap[b]? = w.heap[b]? ∧ ∀ o, g'.γ b o = γ b o := fun b hb => hle.outer b (by simp [g, hb])
  refine ⟨v, g'.γ, rfl, hle.γ, hle.size, fun b hb => (hout b hb).2, ⟨hle.os, hle.out⟩, hrel'.gam, hvr.res_gv hr _ rfl, ?_⟩
  intro e sz ys hx
  obtain ⟨j, z, us, m1, m2, m3, m4, m5, m6, m7, m8, m9⟩ := hown e sz ys hx
  refine ⟨j, z, us, m1, m2, m3, m4, m5, m6, m7, m8, fun b hb => ⟨?_, (m9 b hb).2⟩⟩
  have q := (m9 b hb).1
  have : ¬ b < w.heap.size := fun h => by rw [(hout b h).1] at q; cases q
  simp [gr, this]

theorem fin_mem {s : St} {d : Option Nat} {outs : List ROut} {l : List St} (h : bindL (fin s d) outs = some l) {r : AV} {H : List AObj} (hm : (r, H) ∈ outs) : match ({ s with heap := H } : St).putO d r with | some s' => s' ∈ l | none => False := by
  obtain ⟨x, h1, h2⟩ := bindL_mem h _ hm
  simp only [fin, Option.map_eq_some_iff] at h1
  obtain ⟨s', h3, rfl⟩ := h1
  rw [h3]
  exact h2 s' (by simp)
theorem allDead_eq : ∀ {l : List AObj}, allDead l = true → l = List.replicate l.length .dead
  | [], _ => rfl
  | .dead :: r, h => by
    simp only [allDead] at h
    rw [List.length_cons, List.replicate_succ, ← allDead_eq h]
  | .cells _ :: _, h => by simp [allDead] at h
  | .buf _ _ :: _, h => by simp [allDead] at h
  | .map _ _ :: _, h => by simp [allDead] at h
  | .iter _ _ _ :: _, h => by simp [allDead] at h
theorem isPre_eq : ∀ {H H' : List AObj}, isPre H H' = true → ∃ n, H' = H ++ List.replicate n .dead
  | [], H', h => ⟨_, by rw [List.nil_append]; exact allDead_eq h⟩
  | x :: H, [], h => by simp [isPre] at h
  | x :: H, y :: H', h => by
    simp only [isPre, Bool.and_eq_true] at h
    obtain ⟨n, hn⟩ := isPre_eq h.2
    exact ⟨n, by rw [AObj.beq_eq _ _ h.1, hn]; rfl⟩

theorem detOf_sound (hcall : CallerOk P gl call) {f : Nat} {xs : List AV} {r : AV} (ha : xs.all AV.arg = true) (h : detOf call f xs = some r) : Det P gl f xs r := by
  unfold detOf at h
  split at h
  · rename_i r0 H rest hc
    split at h
    · rename_i hr
      simp only [Option.some.injEq] at h; subst h
      simp only [Bool.and_eq_true] at hr
      refine Det.of_callT ((hcall _ _ _ _ hc).mono fun r' H' hm => ?_) ha hr.1
      rcases List.mem_cons.1 hm with hm | hm
      · simp at hm; exact hm.1
      · have := List.all_eq_true.1 hr.2 _ hm
        exact AV.beq_eq _ _ this
    · cases h
  · cases h
theorem opC_sound (hcall : CallerOk P gl call) {s : St} {o : SOp} {l : List St} (h : opC gl call s o = some l) : opX P gl (detOf call) s (fun s' => s' ∈ l) o := by
  have hgen : ∀ o', o' = o → (ev gl s o').map (fun s => [s]) = some l → (match ev gl s o' with | some s' => s' ∈ l | none => False) := by
    rintro _ rfl h
    rw [Option.map_eq_some_iff] at h
    obtain ⟨s', h1, rfl⟩ := h
    rw [h1]; simp
  cases o <;> first
    | exact hgen _ rfl h
    | skip
  case callP d f xs =>
    simp only [opC] at h
    simp only [opX]
    split at h
    · rename_i vs hvs
      simp only [hvs]
      split at h
      · rename_i harg
        split at h
        · rename_i r hr
          rw [Option.map_eq_some_iff] at h
          obtain ⟨s', h1, rfl⟩ := h
          refine ⟨harg, ?_⟩
          rw [hr]
          refine ⟨detOf_sound hcall harg hr, by rw [h1]; simp⟩
        · cases h
      · cases h
    · cases h
  case callI d f xs =>
    simp only [opC] at h
    simp only [opX]
    split at h
    · rename_i vs hvs
      simp only [hvs]
      obtain ⟨outs, h1, h2⟩ := bind_some h
      obtain ⟨h2, ⟨r0, H0⟩, hne⟩ := bindN_ne h2
      exact ⟨(hcall _ _ _ _ h1).mono fun r H hm => fin_mem h2 hm, r0, H0, fin_mem h2 hne⟩
    · cases h
  case callR d f xs =>
    simp only [opC] at h
    simp only [opX]
    split at h
    · rename_i vs hvs
      simp only [hvs]
      obtain ⟨outs, h1, h2⟩ := bind_some h
      obtain ⟨h2, ⟨r0, H0⟩, hne⟩ := bindN_ne h2
      have key : ∀ r H, (r, H) ∈ outs → (∃ n, H = s.heap ++ List.replicate n .dead) ∧ match ({ s with heap := H } : St).putO d r with | some s' => s' ∈ l | none => False := by
        intro r H hm
        obtain ⟨x, h3, h4⟩ := bindL_mem h2 _ hm
        simp only [finR] at h3
        split at h3
        · rename_i hp
          refine ⟨isPre_eq hp, ?_⟩
          simp only [fin, Option.map_eq_some_iff] at h3
          obtain ⟨s', h5, rfl⟩ := h3
          rw [h5]
          exact h4 s' (by simp)
        · cases h3
      exact ⟨(hcall _ _ _ _ h1).mono fun r H hm => key r H hm, r0, H0, key r0 H0 hne⟩
    · cases h
  case callV d x xs =>
    simp only [opC] at h
    simp only [opX]
    split at h
    · rename_i f caps vs hf hvs
      rw [hf, hvs]
      obtain ⟨outs, h1, h2⟩ := bind_some h
      obtain ⟨h2, ⟨r0, H0⟩, hne⟩ := bindN_ne h2
      exact ⟨(hcall _ _ _ _ h1).mono fun r H hm => fin_mem h2 hm, r0, H0, fin_mem h2 hne⟩
    · cases h
  case callG d f u xs =>
    simp only [opC] at h
    simp only [opX]
    split at h
    · rename_i e sz ys vs hu hvs
      simp only [hu, hvs]
      obtain ⟨outs, h1, h2⟩ := bind_some h
      obtain ⟨h2, ⟨r0, H0⟩, hne⟩ := bindN_ne h2
      exact ⟨(hcall _ _ _ _ h1).mono fun r H hm => fin_mem h2 hm, r0, H0, fin_mem h2 hne⟩
    · rename_i v vs hno hu hvs
      obtain ⟨outs, h1, h2⟩ := bind_some h
      split
      · rename_i e sz ys us hu' hvs'
        rw [hu] at hu'; simp at hu'; subst hu'
        exact (hno _ _ _ rfl).elim
      · rename_i v' us' _ hu' hvs'
        rw [hu] at hu'; simp at hu'; subst hu'
        rw [hvs] at hvs'; simp at hvs'; subst hvs'
        obtain ⟨h2, ⟨r0, H0⟩, hne⟩ := bindN_ne h2
        exact ⟨(hcall _ _ _ _ h1).mono fun r H hm => fin_mem h2 hm, r0, H0, fin_mem h2 hne⟩
      · rename_i hx
        exact hx _ _ hu hvs
    · cases h
  case nxt d it =>
    simp only [opC] at h
    simp only [opX]
    split at h
    · rename_i id m since seen es hcd
      simp only [hcd]
      cases es with
      | nil =>
        simp only at h ⊢
        rw [Option.map_eq_some_iff] at h
        obtain ⟨s', h1, rfl⟩ := h
        rw [h1]; simp
      | cons e0 es =>
        simp only at h ⊢
        intro e he
        obtain ⟨x, h1, h2⟩ := bindL_mem h e he
        rw [Option.map_eq_some_iff] at h1
        obtain ⟨s', h3, rfl⟩ := h1
        rw [h3]
        exact h2 s' (by simp)
    · cases h

theorem regC_sound (hcall : CallerOk P gl call) : ∀ {its : List It} {s : St} {l : List St}, regC gl call its s = some l → runR P gl (detOf call) its s (fun s' => s' ∈ l)
  | [], s, l, h => by simp [regC] at h; subst h; simp [runR]
  | it :: r, s, l, h => by
    simp only [regC] at h
    simp only [runR]
    split at h
    · rename_i hg
      rw [hg]
      simp only
      split at h
      · rename_i s' ho
        refine opX_mono (opC_sound hcall ho) fun s1 hs1 => ?_
        simp at hs1; subst hs1
        exact regC_sound hcall h
      · rename_i l' _ ho
        refine opX_mono (opC_sound hcall ho) fun s1 hs1 => ?_
        obtain ⟨x, h1, h2⟩ := bindL_mem h s1 hs1
        exact runR_mono (fun s' hs' => h2 s' hs') (regC_sound hcall h1)
      · cases h
    · rename_i hg
      rw [hg]
      simp only
      split at h
      · rename_i d hd
        simp only [hd]
        split at h
        · rename_i s' hs
          simp only [hs]
          exact regC_sound hcall h
        · cases h
      · rename_i hd
        simp only [hd]
        exact regC_sound hcall h
    · cases h

theorem execC_sound (hcall : CallerOk P gl call) (lf : Nat) : ∀ (sc : SCode) {s : St} {l : List (Ex × St)}, execC gl call lf sc s = some l → exec P gl (detOf call) sc s fun e s' => (e, s') ∈ l := by
  intro sc
  induction sc with
  | skip => intro s l h; simp [execC] at h; subst h; simp [exec]
  | exit i => intro s l h; simp [execC] at h; subst h; simp [exec]
  | ret => intro s l h; simp [execC] at h; subst h; simp [exec]
  | bad => intro s l h; simp [execC] at h
  | reg its dr =>
    intro s l h
    simp only [execC, Option.map_eq_some_iff] at h
    obtain ⟨l', h1, rfl⟩ := h
    simp only [exec]
    exact runR_mono (fun s' hs' => List.mem_map.2 ⟨s', hs', rfl⟩) (regC_sound hcall h1)
  | seq x y ihx ihy =>
    intro s l h
    simp only [execC] at h
    simp only [exec]
    split at h
    · rename_i s' hx
      refine exec_mono x (ihx hx) fun e s1 hm => ?_
      simp at hm
      obtain ⟨rfl, rfl⟩ := hm
      exact ihy h
    · rename_i l' _ hx
      refine exec_mono x (ihx hx) fun e s1 hm => ?_
      obtain ⟨z, h1, h2⟩ := bindL_mem h _ hm
      cases e with
      | normal => exact exec_mono y (ihy h1) fun e s2 hm2 => h2 _ hm2
      | exit i => simp at h1; subst h1; exact h2 _ (by simp)
      | ret => simp at h1; subst h1; exact h2 _ (by simp)
    · cases h
  | cond c x y ihx ihy =>
    intro s l h
    simp only [execC] at h
    simp only [exec]
    split at h
    · rename_i t ht
      simp only [ht]
      cases t with
      | true => exact ihx h
      | false => exact ihy h
    · cases h
  | block i x ih =>
    intro s l h
    simp only [execC, Option.map_eq_some_iff] at h
    obtain ⟨l', h1, rfl⟩ := h
    simp only [exec]
    refine exec_mono x (ih h1) fun e s1 hm => ?_
    have hmem : blkE i (e, s1) ∈ l'.map (blkE i) := List.mem_map.2 ⟨_, hm, rfl⟩
    cases e with
    | normal => exact hmem
    | ret => exact hmem
    | exit j =>
      simp only [blkE] at hmem
      simp only
      by_cases hj : j = i
      · rw [if_pos hj] at hmem ⊢; exact hmem
      · rw [if_neg hj] at hmem ⊢; exact hmem
  | loop x ih =>
    intro s l h
    simp only [execC] at h
    have key : ∀ (n : Nat) (s : St) (l : List (Ex × St)), loopC (execC gl call lf x) n s = some l → exec P gl (detOf call) (.loop x) s fun e s' => (e, s') ∈ l := by
      intro n
      induction n with
      | zero => intro s l h; simp [loopC] at h
      | succ n ihn =>
        intro s l h
        simp only [loopC] at h
        refine exec_loop ?_
        split at h
        · rename_i s' hx
          refine exec_mono x (ih hx) fun e s1 hm => ?_
          simp at hm
          obtain ⟨rfl, rfl⟩ := hm
          exact ihn _ _ h
        · rename_i l' _ hx
          refine exec_mono x (ih hx) fun e s1 hm => ?_
          obtain ⟨z, h1, h2⟩ := bindL_mem h _ hm
          cases e with
          | normal => exact exec_mono (.loop x) (ihn _ _ h1) fun e s2 hm2 => h2 _ hm2
          | exit i => simp at h1; subst h1; exact h2 _ (by simp)
          | ret => simp at h1; subst h1; exact h2 _ (by simp)
        · cases h
    exact key lf s l h
  | asm t x ih =>
    intro s l h
    simp only [execC] at h
    simp only [exec]
    split at h
    · rename_i ht; simp only [ht]; exact fun _ => ih h
    · rename_i ht; simp only [ht]; exact fun _ => ih h
    · cases h
  | drop ts x ih => intro s l h; exact ih h
  | frz t e sz x ih =>
    intro s l h
    simp only [execC] at h
    simp only [exec]
    split at h
    · rename_i s' hs; simp only [hs]; exact ih h
    · cases h
  | frzb t off e sz x ih =>
    intro s l h
    simp only [execC] at h
    simp only [exec]
    split at h
    · rename_i s' hs; simp only [hs]; exact ih h
    · cases h
  | kill t x ih => intro s l h; exact ih h

theorem callC_sound {T : Tab} {orc : Caller} {lf : Nat} (hT : TabOk P T) (ho : CallerOk P gl orc) : ∀ n, CallerOk P gl (callC gl T orc lf n)
  | 0 => fun f xs H outs h => by simp [callC] at h
  | n + 1 => fun f xs H outs h => by
    simp only [callC] at h
    split at h
    · rename_i l hl
      simp at h; subst h
      exact ho _ _ _ _ hl
    · split at h
      · rename_i sc rvs k hTf
        split at h
        · rename_i hk
          subst hk
          have hf := hT _ _ _ _ hTf
          have key : ∀ l, (execC gl (callC gl T orc lf n) lf sc ⟨pEnv 0 xs, H⟩).bind (bindL (finE rvs)) = some l → CallT P gl f xs H fun r H' => (r, H') ∈ l := by
            intro l hl
            obtain ⟨ends, h1, h2⟩ := bind_some hl
            refine CallT.intro hf (exec_mono sc (execC_sound (callC_sound hT ho n) lf sc h1) fun e s hm => ?_)
            obtain ⟨z, h3, h4⟩ := bindL_mem h2 _ hm
            cases e with
            | exit i => simp [finE] at h3
            | normal =>
              simp only [finE, Option.map_eq_some_iff] at h3
              obtain ⟨r, h5, rfl⟩ := h3
              exact ⟨r, h5, h4 _ (by simp)⟩
            | ret =>
              simp only [finE, Option.map_eq_some_iff] at h3
              obtain ⟨r, h5, rfl⟩ := h3
              exact ⟨r, h5, h4 _ (by simp)⟩
          split at h
          · rename_i p hp
            simp at h; subst h
            exact key _ hp
          · rename_i l _ hl
            simp at h; subst h
            exact (key _ hl).mono fun r H hm => mem_dedup hm
          · cases h
        · cases h
      · cases h
end
end AM
