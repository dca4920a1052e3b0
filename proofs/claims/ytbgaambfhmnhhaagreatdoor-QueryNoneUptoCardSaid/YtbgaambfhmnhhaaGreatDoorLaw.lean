/- QueryNone returns true for all arguments that hold together at most 1048576 values and letters: proved as the card of the statement's second form. Conditions: those of the given row alone. -/
import Derived.Test.YtbgaambfhmnhhaaGreatDoorCards
import Derived.Test.YtbgaambfhmnhhaaGreatDoorTie
import Derived.Test.YtbgaambfhmnhhaaGreatDoorQNone
import Derived.Test.YtbgaambfhmnhhaaGreatDoorAm15
import Derived.Deep.DeepHandedRow
import Derived.ProofKit
import Derived.OpenShut
set_option maxRecDepth 100000
namespace Go.Proofs.YtbgaambfhmnhhaaGreatDoor
open Go Go.ChangeShapes Go.WideShapes Go.ChangeAt Go.RowKit

/-! What the bound of the second form gives. -/
theorem one_le {H : Type} (d : DataW H) : 1 ≤ Rows.uptoBulk d := by
  cases d with
  | lit l => cases l <;> simp [Rows.uptoBulk]
  | nil => simp [Rows.uptoBulk]
  | ptr d => simp [Rows.uptoBulk]
  | slice elems spare => simp [Rows.uptoBulk]
  | agg parts => simp [Rows.uptoBulk]
  | iface t d => simp [Rows.uptoBulk]
  | map entries => simp [Rows.uptoBulk]
  | held h => simp [Rows.uptoBulk]
theorem part_le {H : Type} {d : DataW H} : ∀ {l : List (DataW H)}, d ∈ l → Rows.uptoBulk d ≤ Rows.uptoBulkAll l
  | [], h => by cases h
  | x :: r, h => by
    simp only [Rows.uptoBulkAll]
    rcases List.mem_cons.1 h with rfl | h
    · omega
    · have := part_le h; omega
theorem length_le {H : Type} : ∀ (l : List (DataW H)), l.length ≤ Rows.uptoBulkAll l
  | [] => by simp [Rows.uptoBulkAll]
  | x :: r => by have := one_le x; have := length_le r; simp only [Rows.uptoBulkAll, List.length_cons]; omega
theorem bulk {H : Type} : AM.Bulk (H := H) Rows.uptoBulk := by
  refine ⟨fun b => by simp [Rows.uptoBulk], fun e r => ?_, fun e r d hd => ?_, fun l d hd => ?_⟩
  · have := length_le e; simp only [Rows.uptoBulk]; omega
  · have := part_le hd; simp only [Rows.uptoBulk]; omega
  · have := part_le hd; simp only [Rows.uptoBulk]; omega

/-! The program's types and its table. -/
theorem termTypes : AM.TermTypes Tryz.prog 24 22 9 := ⟨⟨_, _, Tryz.underlying24, rfl, rfl, rfl, rfl⟩, Tryz.underlying22, Tryz.underlying9, by kernel_rfl, by kernel_rfl, by kernel_rfl⟩
theorem kwTypes : AM.KwTypes Tryz.prog 205 162 9 3 4 10 := ⟨Tryz.underlying205, ⟨_, _, _, _, Tryz.underlying162, rfl, rfl, rfl, rfl, rfl, rfl, rfl, rfl⟩, Tryz.underlying9, Tryz.underlying3, Tryz.underlying4, by kernel_rfl, by kernel_rfl, by kernel_rfl, by kernel_rfl, by kernel_rfl⟩
theorem own : ownKnob Tryz.prog.godebug = none := by kernel_rfl
theorem gKw : Tryz.prog.globalNamed "gameplayer/check.keywords" = some 0 := by kernel_rfl
theorem gKwType : (Tryz.prog.globals[0]?).map (·.type) = some 205 := by kernel_rfl
def kws : List AM.Kw := [⟨[114, 111, 108, 101], 1, true, true⟩, ⟨[105, 110, 105, 116], 1, true, false⟩, ⟨[116, 114, 117, 101], 1, false, true⟩, ⟨[100, 111, 101, 115], 2, false, true⟩, ⟨[108, 101, 103, 97, 108], 2, true, false⟩, ⟨[110, 101, 120, 116], 1, true, false⟩, ⟨[116, 101, 114, 109, 105, 110, 97, 108], 0, true, false⟩, ⟨[103, 111, 97, 108], 2, true, false⟩, ⟨[115, 101, 101, 115], 2, true, false⟩, ⟨[100, 105, 115, 116, 105, 110, 99, 116], 2, false, true⟩]
theorem kws_keywords : AM.keywords = .cptr (kws.map AM.Kw.cells).flatten := rfl
theorem kws_laid {H : Type} : (Rows.laid_gameplayer_check_keywords : DataW H) = .agg (kws.map AM.Kw.dat) := rfl
theorem kws_len : ∀ k ∈ kws, k.s.length ≤ AM.M := by
  have : kws.all (fun k => decide (k.s.length ≤ AM.M)) = true := by decide
  exact fun k hk => of_decide_eq_true (List.all_eq_true.1 this k hk)
theorem glob {W : World} {γ : AM.Gam} (h : laidMet Tryz.prog [("gameplayer/check.keywords", Rows.laid_gameplayer_check_keywords)] W) (hγ : ∀ b o v, W.cell? ⟨b, o, none⟩ = some v → γ b o = some v) :
    ∀ n x, AM.glN n = some x → AM.PR γ x (AM.ptrTo n 0) := by
  intro n x hx
  unfold AM.glN at hx
  cases hn : Nat.beq n 0 with
  | false => rw [hn] at hx; cases hx
  | true =>
    rw [hn] at hx
    have e := Nat.eq_of_beq_eq_true hn
    subst e
    simp only [cond_true, Option.some.injEq] at hx
    subst hx
    rw [kws_keywords]
    rw [kws_laid] at h
    exact .cptr _ _ _ (AM.kw_laid kwTypes gKw gKwType kws_len h hγ)

/-- The call over a memory that holds the table: it returns true, and keeps the memory that was there. -/
theorem contract (H : Type) (enc : TypeId × Value → H) (W : World) (base : Nat) (args : Array Value) (ds gs : List (DataW H)) (before : List MemPlace)
    (hval : ∀ (j : Nat) t v, Tryz.f3.params[j]? = some t → args[j]? = some v → Value.okWide Tryz.prog W .any base t v)
    (hW : DataW.Whole enc Tryz.prog Tryz.f3.params.toList Rows.queryNoneSpec.vars false W args.toList ds gs before) (hL : laidMet Tryz.prog [("gameplayer/check.keywords", Rows.laid_gameplayer_check_keywords)] W)
    (hk : Rows.uptoSmall H (ds ++ gs) = true) :
    Calls Tryz.prog 3 args W fun e W' => ∃ v, e = .returned v ∧ Rows.queryNoneSpec.post enc Tryz.prog Tryz.f3 false true false false W args v W' := by
  have hW' := hW
  obtain ⟨p, q, hA, hV, rfl, hfz, hnd⟩ := hW
  rw [Tryz.params3] at hA
  obtain ⟨v0, vs0, d0, ds0, p0, q0, hargs, rfl, rfl, ⟨n0, h0⟩, r0⟩ := trodAll_cons hA
  obtain ⟨v1, vs1, d1, ds1, p1, q1, rfl, rfl, rfl, ⟨n1, h1⟩, r1⟩ := trodAll_cons r0
  obtain ⟨rfl, rfl, rfl⟩ := trodAll_nil r1
  obtain rfl : args = #[v0, v1] := by cases args; simp_all
  obtain ⟨rfl, rfl⟩ := trodVars_none hV
  have hb : Rows.uptoBulk d0 ≤ AM.M ∧ Rows.uptoBulk d1 ≤ AM.M := by
    have h := of_decide_eq_true hk
    simp only [List.append_nil, Rows.uptoBulkAll] at h
    have : AM.M = 1099511627776 := rfl
    omega
  let γ : AM.Gam := fun b o => W.cell? ⟨b, o, none⟩
  have hγ : ∀ b o v, W.cell? ⟨b, o, none⟩ = some v → γ b o = some v := fun b o v h => h
  obtain ⟨given, w0, hw0, hp0⟩ := (AM.read_terms bulk termTypes hγ n0).2 _ _ _ h0 hb.1
  obtain ⟨pat, hp1⟩ := (AM.read_terms bulk termTypes hγ n1).1 _ _ _ h1 hb.2
  obtain ⟨a, len, cap, rfl⟩ := okWide_slice Tryz.underlying22 (hval 0 22 v0 (by rw [Tryz.params3]; rfl) rfl)
  simp only [Value.cells, List.cons.injEq, and_true] at hw0
  subst hw0
  obtain ⟨ws, rfl, hp1'⟩ : ∃ ws : List Value, v1 = .agg ws.toArray ∧ AM.PRs γ pat.cells ws := by
    have h := hval 1 24 v1 (by rw [Tryz.params3]; rfl) rfl
    simp only [Value.okWide, Tryz.underlying24] at h
    obtain ⟨cs, rfl, _, _⟩ := h
    exact ⟨cs.toList, by simp, by simpa [Value.cells] using hp1⟩
  have hvr : AM.VRs (AM.gv γ) [AM.encL given, pat.enc] [.slice a len cap, .agg ws.toArray] := by
    refine .cons _ _ _ _ (.pure _ _ hp0) (.cons _ _ _ _ (.pure _ _ ?_) .nil)
    rw [pat.enc_eq]
    exact .agg _ _ hp1'
  have hcall := AM.law_det given pat γ W [.slice a len cap, .agg ws.toArray] (fun b off v h => h) (glob hL hγ) hvr
  refine Calls.mono hcall ?_
  rintro e W' ⟨v, γ', rfl, _, hsz, hheap, ⟨hos, hout⟩, _, hv, _⟩
  have ev := hv.bool_inv
  subst ev
  refine ⟨_, rfl, AM.post_of_heap (L := [22, 24, 9]) (by kernel_rfl) (by rw [Tryz.params3]; decide) rfl hW' ?_ rfl rfl (fun b hb => (hheap b hb).1) ?_ hout (ok_one (by kernel_rfl) rfl (okWide_bool_mk Tryz.underlying4 _))⟩
  · intro b sp hd
    exact trodAll_cons_mk (shut_bool Tryz.underlying4 _) trodAll_mk0
  · exact congrArg Prod.fst hos

/-- A world for the witness: the settled one, with the table laid. -/
noncomputable def laidWorld (os : Os) : World :=
  { World.holding Tryz.prog os ⟨#[], #[], []⟩ with heap := (World.holding Tryz.prog os ⟨#[], #[], []⟩).heap.modify 0 fun
      | .cells _ t frozen => .cells (kws.map fun k => k.vals).flatten.toArray t frozen
      | o => o }
theorem laid_met (os : Os) : laidMet Tryz.prog Rows.queryNoneUptoRow.laid ((laidWorld os).forCall (fun _ _ => 0) ⟨#[], #[.slice none 0 0, .agg #[.string ⟨#[]⟩, .slice none 0 0]], []⟩).memory :=
  laidMet_of_run' 8 (by kernel_rfl) (by kernel_rfl)
theorem reads (os : Os) {H : Type} (enc : TypeId × Value → H) : ∃ places, DataW.whole enc Tryz.prog ((laidWorld os).forCall (fun _ _ => 0) ⟨#[], #[.slice none 0 0, .agg #[.string ⟨#[]⟩, .slice none 0 0]], []⟩).memory Tryz.f3.params.toList Rows.queryNoneSpec.vars false #[Value.slice none 0 0, .agg #[.string ⟨#[]⟩, .slice none 0 0]].toList 8 = some ([.nil, .agg [.lit (.string []), .nil]], [], places) :=
  ⟨[], by kernel_rfl⟩
theorem liftedUpto (os : Os) (started : os.Started) (H : Type) (enc : TypeId × Value → H) (F : Stop.Interp) :
    ReturnsInHanded {} Tryz.checked os 3 .any ((Rows.OpenSpec.upto Rows.queryNoneSpec).preRow enc Tryz.prog Tryz.f3 Rows.queryNoneUptoRow.domain false Rows.queryNoneUptoRow.laid) (((Rows.OpenSpec.upto Rows.queryNoneSpec).at F).post enc Tryz.prog Tryz.f3 false true false false) := by
  obtain ⟨places, hx⟩ := reads os enc
  refine returnsInHanded_of_row (C := Tryz.checked) (s := Rows.OpenSpec.upto Rows.queryNoneSpec) own started (by kernel_rfl) Tryz.func3
    (witness_row_at (enc := enc) (C := Tryz.checked) false (laidWorld os) #[.slice none 0 0, .agg #[.string ⟨#[]⟩, .slice none 0 0]] rfl (by kernel_rfl) (by kernel_rfl) (by kernel_rfl)
      (OpenSpec.preRow_of_cond 8 hx (by kernel_rfl) (fun k hk => by cases hk; kernel_rfl) (by kernel_rfl) (laid_met os))) ?_
  intro W base args ds gs before hval hW _ hcond _ hL _ _
  exact contract H enc W base args ds gs before hval hW hL (hcond _ rfl)
theorem saidUpto : Rows.QueryNoneUptoSaid :=
  OpenClaim.holds_of_cond 3 Tryz.f3 rfl rfl rfl rfl rfl rfl rfl ⟨rfl, rfl, rfl, rfl, rfl⟩ rfl rfl rfl rfl rfl (by kernel_rfl) Tryz.func3 (by kernel_rfl)
    (of_decide_eq_true (by kernel_rfl)) (by unfold Func.isWrapper; first | (rw [if_pos (by decide +kernel)]; kernel_rfl) | (rw [if_neg (by decide +kernel)]; exact ⟨rfl, rfl⟩))
    (fun os started H enc _ F => by rw [OpenClaim.pre_eq_preRow]; exact liftedUpto os started H enc F)
/-- No parameter wants a stand-in; the program's own looks are off: what the card asks. -/
theorem plain (f : FuncId) (fn : Func) (hf : Tryz.pinned.checked.prog.funcNamed "gameplayer/gameplayerlaw16.QueryNone" = some f) (hfn : Tryz.pinned.checked.prog.funcs[f]? = some fn) :
    false = Tryz.pinned.checked.prog.looks [] ∧ ∀ (j : Nat) t, fn.params[j]? = some t → Tryz.pinned.checked.prog.wantsStandIn t = false := by
  obtain rfl : f = 3 := Option.some.inj ((show Tryz.prog.funcNamed "gameplayer/gameplayerlaw16.QueryNone" = some 3 by kernel_rfl).symm.trans hf) |>.symm
  obtain rfl : fn = Tryz.f3 := (Option.some.inj (Tryz.func3.symm.trans hfn)).symm
  refine ⟨by kernel_rfl, fun j t ht => ?_⟩
  rw [Tryz.params3] at ht
  have h := Array.mem_of_getElem? ht
  simp only [List.mem_toArray, List.mem_cons, List.not_mem_nil, or_false] at h
  rcases h with rfl | rfl
  · exact (show Tryz.prog.wantsStandIn 22 = false by kernel_rfl)
  · exact (show Tryz.prog.wantsStandIn 24 = false by kernel_rfl)
theorem cardUpto : Rows.QueryNoneUptoCardSaid :=
  Claim7.holds_tied_plain_at .later [] _ _ _ _ saidUpto (fun _ h => by cases h) (by kernel_rfl) (fun _ h => by cases h) queryNoneUpto_row_tie rfl ⟨rfl, rfl⟩ (by kernel_rfl) rfl plain (by kernel_rfl)
end Go.Proofs.YtbgaambfhmnhhaaGreatDoor
