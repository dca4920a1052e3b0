/- An abstract machine for the program of the seat, and what of the given program it does, part 13 of 16. Conditions: none. -/
import Derived.Test.YtbgaambfhmnhhaaGreatDoorAm11
import Derived.ChangeArms
/-! Terms of the program as data, and the reading of arguments of their types. -/
namespace AM
open Go

/-- A term: its name and its arguments. -/
inductive Tm where
  | mk (name : List UInt8) (args : List Tm)
def Tm.name : Tm → List UInt8 | .mk n _ => n
def Tm.args : Tm → List Tm | .mk _ l => l
mutual
def Tm.enc : Tm → AV | .mk n l => .agg [.str n, .list none 2 (encs l)]
def encs : List Tm → List AV | [] => [] | t :: r => t.enc :: encs r
end
def Tm.cells (t : Tm) : List AV := [.str t.name, .list none 2 (encs t.args)]
def encL (l : List Tm) : AV := .list none 2 (encs l)
theorem Tm.enc_eq (t : Tm) : t.enc = .agg t.cells := by cases t; simp only [Tm.enc, Tm.cells, Tm.name, Tm.args]
theorem encs_map (l : List Tm) : encs l = l.map Tm.enc := by
  induction l with
  | nil => simp only [encs, List.map_nil]
  | cons t r ih => simp only [encs, List.map_cons, ih]

/-- The types of terms: the struct, its slice, strings. -/
structure TermTypes (P : Program) (T L S : TypeId) : Prop where
  hT : ∃ f0 f1 : Field, P.underlying T = some (.struct #[f0, f1]) ∧ f0.type = S ∧ f0.offset = 0 ∧ f1.type = L ∧ f1.offset = 1
  hL : P.underlying L = some (.slice T)
  hS : P.underlying S = some .string
  cT : P.cellsOf T = 2
  cL : P.cellsOf L = 1
  cS : P.cellsOf S = 1
/-- What is asked of a measure of data. -/
structure Bulk {H : Type} (bk : DataW H → Nat) : Prop where
  str : ∀ b, b.length ≤ bk (.lit (.string b))
  len : ∀ e r, e.length ≤ bk (.slice e r)
  slice : ∀ e r, ∀ d ∈ e, bk d ≤ bk (.slice e r)
  agg : ∀ l, ∀ d ∈ l, bk d ≤ bk (.agg l)

section
variable {H : Type} {enc : TypeId × Value → H} {P : Program} {w : World} {base : Nat} {spare : Nat → Bool} {held : Bool} {T L S : TypeId} {γ : Gam} {bk : DataW H → Nat}

theorem PRc_of {b : Nat} : ∀ {cs : List AV} {ws : List Value} {off : Nat}, PRs γ cs ws → (∀ (i : Nat) v, ws[i]? = some v → γ b (off + i) = some v) → PRc γ b off cs
  | [], _, _, _, _ => .nil _ _
  | c :: cs, _, off, .cons _ _ v ws h1 h2 h3, h => by
    refine .cons _ _ _ _ v (by simpa using h 0 v (by simp)) h1 h2 (PRc_of h3 fun i u hu => ?_)
    have := h (i + 1) u (by simpa using hu)
    rwa [show off + (i + 1) = off + 1 + i by omega] at this
theorem PRr_of {b : Nat} : ∀ (n off : Nat), (∀ i, i < n → ∃ t : Tm, PRc γ b (off + i * 2) t.cells) → ∃ ts : List Tm, ts.length = n ∧ PRr γ b off 2 (encs ts)
  | 0, _, _ => ⟨[], rfl, by simp only [encs]; exact .nil _ _ _⟩
  | n + 1, off, h => by
    obtain ⟨t, ht⟩ := h 0 (by omega)
    obtain ⟨ts, h1, h2⟩ := PRr_of n (off + 2) fun i hi => by
      have := h (i + 1) (by omega)
      rwa [show off + (i + 1) * 2 = off + 2 + i * 2 by omega] at this
    refine ⟨t :: ts, by simp [h1], ?_⟩
    simp only [encs]
    refine .cons _ _ _ _ _ ?_ ?_ h2
    · rw [t.enc_eq]; rfl
    · rw [t.enc_eq]; simpa [AV.cells] using ht

theorem cells?_get {a : Addr} {n : Nat} {cs : List Value} (h : w.cells? base a n = some cs) : cs.length = n ∧ ∀ i v, cs[i]? = some v → w.cell? (a.add i) = some v := by
  unfold World.cells? at h
  split at h
  · have hl := mapM_some_length h
    simp at hl
    refine ⟨hl, fun i v hv => ?_⟩
    have hi : i < n := by have := (List.getElem?_eq_some_iff.1 hv).1; omega
    have := mapM_some_get h i i (by simp [hi])
    rw [this, hv]
  · cases h
theorem spot_none {a : Addr} {v : Value} (h : w.cell? a = some v) : a.spot = none := by
  unfold World.cell? at h
  split at h
  · split at h
    · cases h
    · rename_i hs; simpa using hs
  · cases h

/-- A term, and a list of terms, as they are read. -/
theorem read_terms (hb : Bulk bk) (TT : TermTypes P T L S) (hγ : ∀ b o v, w.cell? ⟨b, o, none⟩ = some v → γ b o = some v) : ∀ fuel : Nat,
    (∀ cs d ps, DataW.trod enc P w base spare held fuel T cs = some (d, ps) → bk d ≤ M → ∃ t : Tm, PRs γ t.cells cs) ∧
    (∀ cs d ps, DataW.trod enc P w base spare held fuel L cs = some (d, ps) → bk d ≤ M → ∃ ts v, cs = [v] ∧ PR γ (encL ts) v)
  | 0 => ⟨fun cs d ps h => by simp [DataW.trod] at h, fun cs d ps h => by simp [DataW.trod] at h⟩
  | n + 1 => by
    obtain ⟨ihT, ihL⟩ := read_terms hb TT hγ n
    constructor
    · intro cs d ps h hd
      obtain ⟨f0, f1, hT, e0, e1, e2, e3⟩ := TT.hT
      obtain ⟨xs, m, hm, hx, hl, hxl, hf⟩ := DataW.trod_struct hT h
      simp at hm; subst hm
      rw [TT.cT] at hl
      match cs, hl, xs, hxl with
      | [c0, c1], _, [x0, x1], _ =>
        have h0 := hf 0 f0 rfl
        have h1 := hf 1 f1 rfl
        rw [e0, e1, TT.cS] at h0
        rw [e2, e3, TT.cL] at h1
        simp only [List.drop_zero, List.take_succ_cons, List.take_zero, List.drop_succ_cons, List.getElem?_cons_zero, List.getElem?_cons_succ] at h0 h1
        simp only [Prod.mk.injEq] at hx
        obtain ⟨rfl, _⟩ := hx
        obtain ⟨s, hs, rfl, _⟩ := DataW.trod_string TT.hS h0
        obtain ⟨ts, v, hv, hp⟩ := ihL [c1] x1.1 x1.2 h1 (Nat.le_trans (hb.agg _ _ (by simp)) hd)
        simp only [List.cons.injEq, and_true] at hs hv
        subst hs hv
        refine ⟨.mk s.data.toList ts, ?_⟩
        simp only [Tm.cells, Tm.name, Tm.args]
        have hlen : s.data.toList.length ≤ M := Nat.le_trans (hb.str _) (Nat.le_trans (hb.agg [.lit (.string s.data.toList), x1.1] _ (by simp)) hd)
        refine .cons _ _ _ _ rfl ?_ (.cons _ _ _ _ ?_ hp .nil)
        · have := PR.str (γ := γ) s.data.toList hlen
          simpa using this
        · unfold encL at hp; generalize encs ts = x at hp; cases hp <;> rfl
    · intro cs d ps h hd
      rcases DataW.trod_slice TT.hL h with ⟨rfl, hx⟩ | ⟨a, len, cap, elems, rest, m, hm, rfl, hx, hb1, hb2, hb3, hlen, hel, _⟩
      · refine ⟨[], _, rfl, ?_⟩
        simp only [encL, encs]
        exact .list0 _ _ _
      · simp at hm; subst hm
        simp only [Prod.mk.injEq] at hx
        obtain ⟨rfl, _⟩ := hx
        have hl : len ≤ M := by have := hb.len (elems.map (·.1)) (rest.map (·.1)); simp at this; omega
        by_cases h0 : len = 0
        · subst h0
          refine ⟨[], _, rfl, ?_⟩
          simp only [encL, encs]
          exact .list0 _ _ _
        · have elem : ∀ i, i < len → ∃ cs' t, PRs γ (Tm.cells t) cs' ∧ cs'.length = 2 ∧ ∀ k v, cs'[k]? = some v → w.cell? ((a.add (i * 2)).add k) = some v := fun i hi => by
            have h1 := hel i hi
            rw [List.getElem?_eq_getElem (by omega), Option.bind_eq_some_iff] at h1
            obtain ⟨cs', h2, h3⟩ := h1
            rw [TT.cT] at h2
            obtain ⟨t, ht⟩ := ihT cs' _ _ (by rw [h3]) (Nat.le_trans (hb.slice _ _ _ (List.mem_map.2 ⟨elems[i], List.getElem_mem _, rfl⟩)) hd)
            obtain ⟨q1, q2⟩ := cells?_get h2
            exact ⟨cs', t, ht, q1, q2⟩
          have hsp : a.spot = none := by
            obtain ⟨cs', t, _, h1, h2⟩ := elem 0 (by omega)
            have h3 := spot_none (h2 0 _ (List.getElem?_eq_getElem (by omega)))
            simpa [Addr.add] using h3
          obtain ⟨ab, ao, sp⟩ := a
          simp only at hsp; subst hsp
          obtain ⟨ts, h1, h2⟩ := PRr_of (γ := γ) (b := ab) len ao fun i hi => by
            obtain ⟨cs', t, h1, _, h2⟩ := elem i hi
            refine ⟨t, PRc_of h1 fun k v hv => hγ _ _ _ ?_⟩
            have := h2 k v hv
            rwa [addr_add, addr_add] at this
          refine ⟨ts, _, rfl, ?_⟩
          have hlen2 : (encs ts).length = len := by rw [encs_map]; simp [h1]
          have := PR.list (γ := γ) ab ao cap 2 (encs ts) (by omega) (by omega) h2
          rw [hlen2] at this
          exact this
end
end AM
