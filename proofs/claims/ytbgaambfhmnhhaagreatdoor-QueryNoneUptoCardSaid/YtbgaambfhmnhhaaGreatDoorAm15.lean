/- An abstract machine for the program of the seat, and what of the given program it does, part 16 of 16. Conditions: none. -/
import Derived.Test.YtbgaambfhmnhhaaGreatDoorAm14
import Derived.OpenShut
import Derived.LaidLaws
/-! The table of keywords as it is read, in immutable cells; arguments as data. -/
namespace AM
open Go
/-- A row of the table: name, arguments, head, body. -/
structure Kw where
  s : List UInt8
  n : Int
  a : Bool
  b : Bool
def Kw.dat {H : Type} (k : Kw) : DataW H := .agg [.lit (.string k.s), .lit (.int .i64 k.n), .lit (.bool k.a), .lit (.bool k.b)]
def Kw.cells (k : Kw) : List AV := [.str k.s, .int .i64 k.n, .bool k.a, .bool k.b]
def Kw.vals (k : Kw) : List Value := [.string ⟨k.s.toArray⟩, .int .i64 k.n, .bool k.a, .bool k.b]
structure KwTypes (P : Program) (A R S I B : TypeId) (n : Nat) : Prop where
  hA : P.underlying A = some (.array n R)
  hR : ∃ f0 f1 f2 f3 : Field, P.underlying R = some (.struct #[f0, f1, f2, f3]) ∧ f0.type = S ∧ f0.offset = 0 ∧ f1.type = I ∧ f1.offset = 1 ∧ f2.type = B ∧ f2.offset = 2 ∧ f3.type = B ∧ f3.offset = 3
  hS : P.underlying S = some .string
  hI : P.underlying I = some (.int .i64)
  hB : P.underlying B = some .bool
  cA : P.cellsOf A = n * 4
  cR : P.cellsOf R = 4
  cS : P.cellsOf S = 1
  cI : P.cellsOf I = 1
  cB : P.cellsOf B = 1
section
variable {H : Type} {enc : TypeId × Value → H} {P : Program} {w : World} {base : Nat} {spare : Nat → Bool} {held : Bool} {A R S I B : TypeId} {n : Nat}
theorem kw_row (T : KwTypes P A R S I B n) {fuel : Nat} {cs : List Value} {k : Kw} {ps : List MemPlace} (h : DataW.trod enc P w base spare held fuel R cs = some (k.dat, ps)) : cs = k.vals := by
  obtain ⟨f0, f1, f2, f3, hR, e0, o0, e1, o1, e2, o2, e3, o3⟩ := T.hR
  obtain ⟨xs, m, hm, hx, hl, hxl, hf⟩ := DataW.trod_struct hR h
  rw [T.cR] at hl
  match cs, hl with
  | [c0, c1, c2, c3], _ =>
    have hx0 := congrArg Prod.fst hx
    simp only [Kw.dat, DataW.agg.injEq] at hx0
    match xs, hx0 with
    | [x0, x1, x2, x3], hx0 =>
      simp only [List.map_cons, List.map_nil, List.cons.injEq, and_true] at hx0
      obtain ⟨y0, y1, y2, y3⟩ := hx0
      have h0 := hf 0 f0 rfl
      have h1 := hf 1 f1 rfl
      have h2 := hf 2 f2 rfl
      have h3 := hf 3 f3 rfl
      rw [e0, o0, T.cS] at h0
      rw [e1, o1, T.cI] at h1
      rw [e2, o2, T.cB] at h2
      rw [e3, o3, T.cB] at h3
      simp only [List.drop_zero, List.take_succ_cons, List.take_zero, List.drop_succ_cons, List.getElem?_cons_zero, List.getElem?_cons_succ] at h0 h1 h2 h3
      obtain ⟨s, q0, z0, _⟩ := DataW.trod_string T.hS h0
      obtain ⟨i, q1, z1, _⟩ := DataW.trod_int T.hI h1
      obtain ⟨a, q2, z2⟩ := DataW.trod_bool T.hB h2
      obtain ⟨b, q3, z3⟩ := DataW.trod_bool T.hB h3
      subst z0 z1 z2 z3
      simp only [DataW.lit.injEq, Lit.string.injEq, Lit.int.injEq, Lit.bool.injEq, true_and] at y0 y1 y2 y3
      simp only [List.cons.injEq, and_true] at q0 q1 q2 q3
      subst q0 q1 q2 q3
      obtain ⟨ks, kn, ka, kb⟩ := k
      simp only at y0 y1 y2 y3
      subst y0 y1 y2 y3
      rfl
theorem kw_table (T : KwTypes P A R S I B n) {fuel : Nat} {cs : List Value} {ks : List Kw} {ps : List MemPlace} (h : DataW.trod enc P w base spare held fuel A cs = some (.agg (ks.map Kw.dat), ps)) :
    cs.length = n * 4 ∧ ks.length = n ∧ ∀ (i : Nat) k, ks[i]? = some k → (cs.drop (i * 4)).take 4 = k.vals := by
  obtain ⟨xs, m, hm, hx, hl, hxl, hf⟩ := DataW.trod_array T.hA h
  have hx0 := congrArg Prod.fst hx
  simp only [DataW.agg.injEq] at hx0
  have hkl : ks.length = n := by have := congrArg List.length hx0; simp at this; omega
  refine ⟨by rw [hl, T.cA], hkl, fun i k hk => ?_⟩
  have hi : i < n := by have := (List.getElem?_eq_some_iff.1 hk).1; omega
  have h1 := hf i hi
  rw [T.cR] at h1
  have h2 : (xs.map (·.1))[i]? = some k.dat := by rw [← hx0]; simp [hk]
  rw [List.getElem?_map, Option.map_eq_some_iff] at h2
  obtain ⟨y, hy, hy2⟩ := h2
  rw [hy] at h1
  obtain ⟨d, ps'⟩ := y
  simp only at hy2
  subst hy2
  exact kw_row T h1
theorem kw_prc {γ : Gam} {b : Nat} : ∀ (ks : List Kw) (off : Nat), (∀ k ∈ ks, k.s.length ≤ M) → (∀ (i : Nat) k, ks[i]? = some k → ∀ j v, k.vals[j]? = some v → γ b (off + i * 4 + j) = some v) → PRc γ b off (ks.map Kw.cells).flatten
  | [], _, _, _ => .nil _ _
  | k :: ks, off, hM, h => by
    have h0 := h 0 k rfl
    have hr := kw_prc ks (off + 4) (fun k hk => hM k (by simp [hk])) fun i k' hk j v hv => by
      have := h (i + 1) k' (by simpa using hk) j v hv
      rwa [show off + 4 + i * 4 + j = off + (i + 1) * 4 + j by omega]
    simp only [List.map_cons, List.flatten_cons, Kw.cells, List.cons_append, List.nil_append]
    refine .cons _ _ _ _ _ (by simpa using h0 0 _ rfl) rfl (.str _ (hM k (by simp))) (.cons _ _ _ _ _ (by simpa using h0 1 _ rfl) rfl (.int _ _) (.cons _ _ _ _ _ (by simpa using h0 2 _ rfl) rfl (.bool _) (.cons _ _ _ _ _ (by simpa using h0 3 _ rfl) rfl (.bool _) hr)))
/-- From the row's condition: the table's cells. -/
theorem kw_laid (T : KwTypes P A R S I B n) {name : String} {g : Nat} {ks : List Kw} {γ : Gam} {W : World} (hg : P.globalNamed name = some g) (hty : (P.globals[g]?).map (·.type) = some A) (hks : ∀ k ∈ ks, k.s.length ≤ M)
    (h : laidMet P [(name, .agg (ks.map Kw.dat))] W) (hγ : ∀ b o v, W.cell? ⟨b, o, none⟩ = some v → γ b o = some v) : PRc γ g 0 (ks.map Kw.cells).flatten := by
  obtain ⟨ps, ⟨g', t', cs, fuel, p, q, hg', ht', hvar, hd, _, _⟩, _⟩ := h
  obtain rfl := Option.some.inj (hg.symm.trans hg')
  obtain rfl := Option.some.inj (hty.symm.trans ht')
  obtain ⟨h1, h2, h3⟩ := kw_table T hd
  refine kw_prc ks 0 hks fun i k hk j v hv => hγ _ _ _ ?_
  rw [World.var?_cell hg hvar, ← Array.getElem?_toList]
  have h4 := h3 i k hk
  have hj : j < 4 := by
    have := (List.getElem?_eq_some_iff.1 hv).1
    simpa [Kw.vals] using this
  rw [← h4, List.getElem?_take, if_pos hj, List.getElem?_drop] at hv
  simpa using hv
end
end AM
