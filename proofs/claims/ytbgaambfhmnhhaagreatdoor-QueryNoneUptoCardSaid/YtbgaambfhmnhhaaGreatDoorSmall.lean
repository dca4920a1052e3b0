/- gameplayerplain.parts, Small, SmallTerms: what they return for all terms. Conditions: none. -/
import Derived.Test.YtbgaambfhmnhhaaGreatDoorOk
import Derived.Test.YtbgaambfhmnhhaaGreatDoorAm15
set_option maxRecDepth 100000
set_option linter.unusedSimpArgs false
namespace AM
open Go Go.Proofs
/-- What parts, Small and SmallTerms return. -/
def dSmall (f : Nat) (xs : List AV) : Option AV :=
  if f = 12 then (match xs with | [x, .int .i64 m, .int .i64 d] => if 0 ≤ m ∧ m ≤ 1000 ∧ 0 ≤ d ∧ d ≤ m then (decT x).map fun t => .int .i64 (partsF m.toNat d.toNat t) else none | _ => none)
  else if f = 5 then (match xs with | [x, .int .i64 m] => if 0 ≤ m ∧ m ≤ 1000 then (decT x).map fun t => .bool (smallF m.toNat t) else none | _ => none)
  else if f = 4 then (match xs with | [x, .int .i64 m] => if 0 ≤ m ∧ m ≤ 1000 then (decL x).map fun l => .bool (smallsF m.toNat l) else none | _ => none)
  else none
theorem dSmall_parts (t : Tm) {m d : Nat} (hm : m ≤ 1000) (hd : d ≤ m) : dSmall 12 [t.enc, .int .i64 m, .int .i64 d] = some (.int .i64 (partsF m d t)) := by
  simp only [dSmall, if_true, decT_enc, Option.map_some, Int.toNat_natCast]
  rw [if_pos (by omega)]
theorem dSmall_small (t : Tm) {m : Nat} (hm : m ≤ 1000) : dSmall 5 [t.enc, .int .i64 m] = some (.bool (smallF m t)) := by
  simp only [dSmall, Nat.reduceEqDiff, if_true, if_false, decT_enc, Option.map_some, Int.toNat_natCast]
  rw [if_pos (by omega)]
theorem dSmall_smalls (l : List Tm) {m : Nat} (hm : m ≤ 1000) : dSmall 4 [encL l, .int .i64 m] = some (.bool (smallsF m l)) := by
  simp only [dSmall, Nat.reduceEqDiff, if_true, if_false, decL_enc, Option.map_some, Int.toNat_natCast]
  rw [if_pos (by omega)]

section
variable {D : Dets}
theorem partsL_nil (f : Tm → Int) (m n : Int) : partsL f m [] n = n := rfl
theorem parts_loop (hD : ∀ f xs r, dSmall f xs = some r → D f xs = some r) {m d : Nat} (hm : m ≤ 1000) (hd : d + 1 ≤ m) (nm : List UInt8) (ar : List Tm) (hM : ar.length ≤ M) (s : St) (Q : Ex → St → Prop)
    (ih : ∀ t : Tm, Det Tryz.prog glN 12 [t.enc, .int .i64 m, .int .i64 d] (.int .i64 (partsF m d t)))
    (hs : ({ s with env := s.env.close [0, 6, 8, 10, 17, 21] } : St) = ⟨[(1, .v (.int .i64 m)), (2, .v (.int .i64 (d + 1))), (3, .v (.cptr [.str nm, .list none 2 (encs ar)])), (7, .v (.int .i64 1)), (15, .v (.int .i64 ar.length)), (16, .v (.int .i64 0))], []⟩)
    (h0 : ∀ s, Q (.exit 0) ⟨[(1, .v (.int .i64 m)), (2, .v (.int .i64 (d + 1))), (3, .v (.cptr [.str nm, .list none 2 (encs ar)])), (7, .v (.int .i64 (partsL (partsF m d) m ar 1))), (15, .v (.int .i64 ar.length)), (16, .v (.int .i64 s)), (17, .v (.bool false))], []⟩)
    (h1 : ∀ s, Env.get s.env 6 = some (.v (.int .i64 (partsL (partsF m d) m ar 1))) → Q .ret s) :
    exec Tryz.prog glN D (.loop l12_0) s Q := by
  refine exec_loopD (fun p : Nat × Int => ⟨[(1, .v (.int .i64 m)), (2, .v (.int .i64 (d + 1))), (3, .v (.cptr [.str nm, .list none 2 (encs ar)])), (7, .v (.int .i64 p.2)), (15, .v (.int .i64 ar.length)), (16, .v (.int .i64 p.1))], []⟩)
    (fun p => p.1 ≤ ar.length ∧ partsL (partsF m d) m (ar.drop p.1) p.2 = partsL (partsF m d) m ar 1) (fun p => ar.length - p.1) (0, 1) (by simp) hs ?_
  rintro ⟨i, n⟩ ⟨hi, hp⟩
  have hM' : M = 1099511627776 := rfl
  simp only at hi hp
  by_cases h : i < ar.length
  · have e1 : decide ((i : Int) < (ar.length : Int)) = true := by simpa using h
    rw [List.drop_eq_getElem_cons h] at hp
    simp only [partsL] at hp
    obtain ⟨n', a', hx⟩ : ∃ n' a', ar[i] = .mk n' a' := by cases ar[i]; exact ⟨_, _, rfl⟩
    have e2 : (encs ar)[i]? = some (.agg [.str n', .list none 2 (encs a')]) := by rw [encs_get, List.getElem?_eq_getElem h, hx]; simp only [Option.map_some, Tm.enc]
    have q1 := hD _ _ _ (dSmall_parts (.mk n' a') hm (by omega : d ≤ m))
    have q2 := ih (.mk n' a')
    simp only [Tm.enc] at q1 q2
    have e3 : ((encs ar).length : Int) = ar.length := by rw [encs_len]
    have e4 : IntKind.i64.wrap ((d : Int) + 1 - 1) = d := by rw [wrap64] <;> omega
    have e5 : IntKind.i64.wrap ((i : Int) + 1) = ((i + 1 : Nat) : Int) := by rw [wrap64] <;> omega
    have e6 : (0 : Int) ≤ i := by omega
    have e7 : (i : Int) < ar.length := by omega
    by_cases h6 : n > m
    · have e8 : decide (n > (m : Int)) = true := by simpa using h6
      rw [if_pos h6] at hp
      simp only [go_sem, e1, e8, reduceIte, Nat.reduceAdd, Nat.reduceLT, Nat.reduceEqDiff, reduceCtorEq, Nat.reduceLeDiff]
      exact h1 _ (by rw [← hp]; rfl)
    · have e8 : decide (n > (m : Int)) = false := by simpa using h6
      rw [if_neg h6, hx] at hp
      simp only [go_sem, e1, e2, e3, e4, e5, e6, e7, e8, q1, q2, Int.toNat_natCast, reduceIte, Nat.reduceAdd, Nat.reduceLT, Nat.reduceEqDiff, reduceCtorEq, Nat.reduceLeDiff]
      exact ⟨(i + 1, _), ⟨by simp only; omega, hp⟩, by simp only; omega, rfl⟩
  · have e1 : decide ((i : Int) < (ar.length : Int)) = false := by simpa using h
    have : ar.drop i = [] := List.drop_eq_nil_of_le (by omega)
    rw [this, partsL_nil] at hp
    simp only [go_sem, e1, reduceIte, Nat.reduceAdd, Nat.reduceLT, Nat.reduceEqDiff, reduceCtorEq, Nat.reduceLeDiff]
    rw [hp]
    exact h0 _
theorem enc_args (t : Tm) (l : List AV) (h : l.all AV.arg = true) : (t.enc :: l).all AV.arg = true := by rw [List.all_cons, t.arg, h]; rfl
theorem parts_det {m : Nat} (hm : m ≤ 1000) : ∀ (d : Nat) (t : Tm), d ≤ m → Det Tryz.prog glN 12 [t.enc, .int .i64 m, .int .i64 d] (.int .i64 (partsF m d t))
  | 0, .mk nm ar, _ => by
    refine Det.intro (D := dSmall) ck12 (enc_args _ _ rfl) rfl ?_
    simp only [Tm.enc]
    unfold sc12
    have e1 : decide (((0 : Nat) : Int) < 1) = true := by decide
    simp only [go_sem, e1, rv12, reduceIte, Nat.reduceAdd, Nat.reduceLT, Nat.reduceEqDiff, reduceCtorEq, Nat.reduceLeDiff, partsF]
  | d + 1, .mk nm ar, hd => by
    refine Det.assume (B := (Tm.mk nm ar).bd) (fun γ vs h => by cases h with | cons _ _ _ _ h _ => exact Tm.bd_vr h) fun hb => ?_
    simp only [Tm.bd] at hb
    refine Det.intro (D := dSmall) ck12 (enc_args _ _ rfl) rfl ?_
    simp only [Tm.enc]
    unfold sc12
    have e1 : decide (((d + 1 : Nat) : Int) < 1) = false := decide_eq_false (by omega)
    simp only [go_sem, e1, rv12, reduceIte, Nat.reduceAdd, Nat.reduceLT, Nat.reduceEqDiff, reduceCtorEq, Nat.reduceLeDiff, encs_len]
    refine parts_loop (fun _ _ _ h => h) hm hd nm ar hb.2.1 _ _ (fun t => parts_det hm d t (by omega)) ?_ ?_ ?_
    · simp only [go_sem, reduceIte, Nat.reduceAdd, Nat.reduceLT, Nat.reduceEqDiff, reduceCtorEq, Nat.reduceLeDiff]
      rfl
    · intro i
      unfold r12_1
      simp only [go_sem, reduceIte, Nat.reduceAdd, Nat.reduceLT, Nat.reduceEqDiff, reduceCtorEq, Nat.reduceLeDiff, partsF, Tm.args]
    · intro s hs
      simp only [go_sem, hs, partsF, Tm.args]
theorem small_det {m : Nat} (hm : m ≤ 1000) (t : Tm) : Det Tryz.prog glN 5 [t.enc, .int .i64 m] (.bool (smallF m t)) := by
  refine Det.intro (D := dSmall) ck5 (enc_args _ _ rfl) rfl ?_
  have h := dSmall_parts t hm (Nat.le_refl m)
  have h2 := parts_det hm m t (Nat.le_refl m)
  obtain ⟨nm, ar⟩ := t
  simp only [Tm.enc] at h h2 ⊢
  unfold sc5
  simp only [go_sem, rv5, h, h2, smallF, reduceIte, Nat.reduceAdd, Nat.reduceLT, Nat.reduceEqDiff, reduceCtorEq, Nat.reduceLeDiff]
theorem smalls_loop (hD : ∀ f xs r, dSmall f xs = some r → D f xs = some r) {m : Nat} (hm : m ≤ 1000) (l : List Tm) (hM : l.length ≤ M) (s : St) (Q : Ex → St → Prop)
    (hs : ({ s with env := s.env.close [4, 5, 9, 13, 21] } : St) = ⟨[(0, .v (encL l)), (1, .v (.int .i64 m)), (11, .v (.int .i64 l.length)), (12, .v (.int .i64 0))], []⟩)
    (h0 : ∀ s, l.all (smallF m) = true → Q (.exit 0) ⟨[(0, .v (encL l)), (1, .v (.int .i64 m)), (11, .v (.int .i64 l.length)), (12, .v (.int .i64 s)), (13, .v (.bool false))], []⟩)
    (h1 : ∀ s, l.all (smallF m) = false → Env.get s.env 4 = some (.v (.bool false)) → Q .ret s) :
    exec Tryz.prog glN D (.loop l4_0) s Q := by
  refine exec_loopD (fun p : Nat => ⟨[(0, .v (encL l)), (1, .v (.int .i64 m)), (11, .v (.int .i64 l.length)), (12, .v (.int .i64 p))], []⟩)
    (fun p => p ≤ l.length ∧ (l.take p).all (smallF m) = true) (fun p => l.length - p) 0 (by simp) hs ?_
  rintro i ⟨hi, hp⟩
  have hM' : M = 1099511627776 := rfl
  by_cases h : i < l.length
  · have e1 : decide ((i : Int) < (l.length : Int)) = true := by simpa using h
    obtain ⟨n', a', hx⟩ : ∃ n' a', l[i] = .mk n' a' := by cases l[i]; exact ⟨_, _, rfl⟩
    have e2 : (encs l)[i]? = some (.agg [.str n', .list none 2 (encs a')]) := by rw [encs_get, List.getElem?_eq_getElem h, hx]; simp only [Option.map_some, Tm.enc]
    have q1 := hD _ _ _ (dSmall_small (.mk n' a') hm)
    have q2 := small_det hm (.mk n' a')
    simp only [Tm.enc] at q1 q2
    have e3 : ((encs l).length : Int) = l.length := by rw [encs_len]
    have e5 : IntKind.i64.wrap ((i : Int) + 1) = ((i + 1 : Nat) : Int) := by rw [wrap64] <;> omega
    have e6 : (0 : Int) ≤ i := by omega
    have e7 : (i : Int) < l.length := by omega
    have ht : (l.take (i + 1)).all (smallF m) = ((l.take i).all (smallF m) && smallF m (.mk n' a')) := by
      rw [List.take_add_one, List.getElem?_eq_getElem h, hx]
      simp
    cases h6 : smallF m (.mk n' a') with
    | false =>
      rw [h6] at q1 q2
      simp only [go_sem, encL, e1, e2, e3, e5, e6, e7, q1, q2, Int.toNat_natCast, reduceIte, Nat.reduceAdd, Nat.reduceLT, Nat.reduceEqDiff, reduceCtorEq, Nat.reduceLeDiff]
      refine h1 _ ?_ rfl
      rw [Bool.eq_false_iff]
      intro hall
      have := List.all_eq_true.1 hall l[i] (List.getElem_mem _)
      rw [hx, h6] at this
      cases this
    | true =>
      rw [h6] at q1 q2
      simp only [go_sem, encL, e1, e2, e3, e5, e6, e7, q1, q2, Int.toNat_natCast, reduceIte, Nat.reduceAdd, Nat.reduceLT, Nat.reduceEqDiff, reduceCtorEq, Nat.reduceLeDiff]
      exact ⟨i + 1, ⟨by omega, by rw [ht, hp, h6]; rfl⟩, by omega, rfl⟩
  · have e1 : decide ((i : Int) < (l.length : Int)) = false := by simpa using h
    simp only [go_sem, e1, reduceIte, Nat.reduceAdd, Nat.reduceLT, Nat.reduceEqDiff, reduceCtorEq, Nat.reduceLeDiff]
    exact h0 _ (by rwa [List.take_of_length_le (by omega)] at hp)
theorem smalls_det {m : Nat} (hm : m ≤ 1000) (l : List Tm) : Det Tryz.prog glN 4 [encL l, .int .i64 m] (.bool (smallsF m l)) := by
  refine Det.assume (B := l.length ≤ M) (fun γ vs h => by cases h with | cons _ _ _ _ h _ => exact (encL_bd_vr h).1) fun hb => ?_
  refine Det.intro (D := dSmall) ck4 rfl rfl ?_
  unfold sc4
  by_cases h : l.length ≤ m
  · have e1 : decide ((l.length : Int) > (m : Int)) = false := decide_eq_false (by omega)
    have e2 : decide (l.length ≤ m) = true := decide_eq_true h
    simp only [go_sem, e1, encL, rv4, reduceIte, Nat.reduceAdd, Nat.reduceLT, Nat.reduceEqDiff, reduceCtorEq, Nat.reduceLeDiff, encs_len]
    refine smalls_loop (fun _ _ _ h => h) hm l hb _ _ ?_ ?_ ?_
    · simp only [go_sem, encL, reduceIte, Nat.reduceAdd, Nat.reduceLT, Nat.reduceEqDiff, reduceCtorEq, Nat.reduceLeDiff]
    · intro i hall
      unfold r4_1
      simp only [go_sem, encL, e2, hall, reduceIte, Nat.reduceAdd, Nat.reduceLT, Nat.reduceEqDiff, reduceCtorEq, Nat.reduceLeDiff, smallsF]
    · intro s hall hs
      simp only [go_sem, hs, smallsF, e2, hall]
  · have e1 : decide ((l.length : Int) > (m : Int)) = true := decide_eq_true (by omega)
    have e2 : decide (l.length ≤ m) = false := decide_eq_false h
    simp only [go_sem, e1, e2, smallsF, encL, rv4, reduceIte, Nat.reduceAdd, Nat.reduceLT, Nat.reduceEqDiff, reduceCtorEq, Nat.reduceLeDiff, encs_len]
end
theorem dSmall_ok : DtOk Tryz.prog glN dSmall := by
  intro f xs r h
  unfold dSmall at h
  split at h
  · rename_i hf; subst hf
    split at h
    · split at h
      · rename_i m d hc
        simp only [Option.map_eq_some_iff] at h
        obtain ⟨t, h1, rfl⟩ := h
        rw [decT_eq _ _ h1]
        have := parts_det (m := m.toNat) (by omega) d.toNat t (by omega)
        rw [Int.toNat_of_nonneg hc.1, Int.toNat_of_nonneg hc.2.2.1] at this
        rw [Int.toNat_of_nonneg hc.1]
        exact ⟨(chkFn_spec ck12).1, enc_args _ _ rfl, this⟩
      · cases h
    · cases h
  · split at h
    · rename_i hf; subst hf
      split at h
      · split at h
        · rename_i m hc
          simp only [Option.map_eq_some_iff] at h
          obtain ⟨t, h1, rfl⟩ := h
          rw [decT_eq _ _ h1]
          have := small_det (m := m.toNat) (by omega) t
          rw [Int.toNat_of_nonneg hc.1] at this
          exact ⟨(chkFn_spec ck5).1, enc_args _ _ rfl, this⟩
        · cases h
      · cases h
    · split at h
      · rename_i hf; subst hf
        split at h
        · split at h
          · rename_i m hc
            simp only [Option.map_eq_some_iff] at h
            obtain ⟨t, h1, rfl⟩ := h
            rw [decL_eq h1]
            have := smalls_det (m := m.toNat) (by omega) t
            rw [Int.toNat_of_nonneg hc.1] at this
            exact ⟨(chkFn_spec ck4).1, rfl, this⟩
          · cases h
        · cases h
      · cases h
end AM
