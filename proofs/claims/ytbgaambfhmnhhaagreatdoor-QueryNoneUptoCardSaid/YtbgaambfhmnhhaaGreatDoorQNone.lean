/- The law's body: a nil prover, and one that New did not return. Conditions: none. -/
import Derived.Test.YtbgaambfhmnhhaaGreatDoorSmall
import Derived.Test.YtbgaambfhmnhhaaGreatDoorLemN
set_option maxRecDepth 100000
set_option linter.unusedSimpArgs false
namespace AM
open Go Go.Proofs
/-- What is known of the law's calls. -/
def dQN (f : Nat) (xs : List AV) : Option AV := if f = 6 then (match xs with | [] => some (.bool true) | _ => none) else dSmall f xs
theorem dQN_ok : DtOk Tryz.prog glN dQN := by
  intro f xs r h
  unfold dQN at h
  split at h
  · rename_i hf; subst hf
    split at h
    · simp only [Option.some.injEq] at h; subst h
      exact awakeD
    · cases h
  · exact dSmall_ok _ _ _ h
/-- Known calls by the kernel, where the other known calls do not occur. -/
noncomputable def dQK (f : Nat) (xs : List AV) : Option AV := bif Nat.beq f 6 then dQN f xs else bif (Nat.beq f 5 || Nat.beq f 4) then dQN f xs else none
theorem dQK_ok : DtOk Tryz.prog glN dQK := by
  intro f xs r h
  unfold dQK at h
  cases h1 : Nat.beq f 6 with
  | true => rw [h1] at h; exact dQN_ok _ _ _ h
  | false =>
    rw [h1] at h
    cases h2 : (Nat.beq f 5 || Nat.beq f 4) with
    | true => rw [h2] at h; exact dQN_ok _ _ _ h
    | false => rw [h2] at h; cases h
noncomputable def cQ : Caller := callK glN dQK tt.get baseF 1000 50
theorem cQ_ok : CallerOk Tryz.prog glN cQ := callK_sound dQK_ok (TT.ok ttOk) baseN 50
/-- All ends return true. -/
def allTrue (t : Nat) (o : Option (List (Ex × St))) : Bool := match o with
  | some l => l.all fun p => match p with
    | (.exit _, _) => false
    | (_, s) => (match Env.get s.env t with | some (.v (.bool true)) => true | _ => false)
  | none => false
theorem allTrue_spec {t : Nat} {o : Option (List (Ex × St))} (h : allTrue t o = true) : ∃ l, o = some l ∧ ∀ e s, (e, s) ∈ l → (∀ i, e ≠ .exit i) ∧ Env.get s.env t = some (.v (.bool true)) := by
  unfold allTrue at h
  split at h
  · rename_i l
    refine ⟨l, rfl, fun e s hm => ?_⟩
    have := List.all_eq_true.1 h _ hm
    cases e with
    | exit i => simp at this
    | normal =>
      simp only at this
      split at this
      · rename_i he; exact ⟨by simp, he⟩
      · cases this
    | ret =>
      simp only at this
      split at this
      · rename_i he; exact ⟨by simp, he⟩
      · cases this
  · cases h
/-- What stands behind the law's first test. -/
def restQ : SCode := match sc3 with | .seq _ (.seq _ r) => r | _ => .bad
def qSt (g n : AV) (n1 : List UInt8) (l1 : List AV) : St := ⟨[(0, .v g), (1, .v n), (3, .v (.cptr [.str n1, .list none 2 l1])), (4, .v (.bool false)), (19, .v (.bool false))], []⟩
theorem rest_true (l0 l1 : List AV) (n1 : List UInt8) : allTrue 4 (execK glN dQK cQ 1000 restQ (qSt (.list none 2 l0) (.agg [.str n1, .list none 2 l1]) n1 l1)) = true := by kernel_rfl
theorem law_det (given : List Tm) (pattern : Tm) : Det Tryz.prog glN 3 [encL given, pattern.enc] (.bool true) := by
  refine Det.intro (D := dOf dQK cQ) ck3 (by rw [List.all_cons, enc_args _ _ rfl]; rfl) rfl ?_
  have q1 : dOf dQK cQ 4 [encL given, .int .i64 60] = some (.bool (smallsF 60 given)) := by
    have h : dSmall 4 [encL given, .int .i64 60] = some (.bool (smallsF 60 given)) := dSmall_smalls given (m := 60) (by omega)
    show (match dSmall 4 [encL given, .int .i64 60] with | some r => some r | none => detOf cQ _ _) = _
    rw [h]
  have q2 : dOf dQK cQ 5 [pattern.enc, .int .i64 60] = some (.bool (smallF 60 pattern)) := by
    have h : dSmall 5 [pattern.enc, .int .i64 60] = some (.bool (smallF 60 pattern)) := dSmall_small pattern (m := 60) (by omega)
    show (match dSmall 5 [pattern.enc, .int .i64 60] with | some r => some r | none => detOf cQ _ _) = _
    rw [h]
  have q3 : dOf dQK cQ 6 [] = some (.bool true) := rfl
  have w1 : Det Tryz.prog glN 4 [encL given, .int .i64 60] (.bool (smallsF 60 given)) := smalls_det (m := 60) (by omega) given
  have w2 : Det Tryz.prog glN 5 [pattern.enc, .int .i64 60] (.bool (smallF 60 pattern)) := small_det (m := 60) (by omega) pattern
  have w3 : Det Tryz.prog glN 6 [] (.bool true) := awakeD.2.2
  generalize smallsF 60 given = b1 at q1 w1
  generalize smallF 60 pattern = b2 at q2 w2
  obtain ⟨nm, ar⟩ := pattern
  simp only [Tm.enc, encL] at q1 q2 w1 w2 ⊢
  obtain ⟨l, h1, h2⟩ := allTrue_spec (rest_true (encs given) (encs ar) nm)
  have hr : exec Tryz.prog glN (dOf dQK cQ) restQ (qSt (.list none 2 (encs given)) (.agg [.str nm, .list none 2 (encs ar)]) nm (encs ar)) (endQ fun s => retV s.env rv3 = some (.bool true)) := by
    refine exec_mono _ (execK_sound dQK_ok cQ_ok 1000 restQ h1) fun e s hm => ?_
    obtain ⟨h3, h4⟩ := h2 e s hm
    cases e with
    | exit i => exact absurd rfl (h3 i)
    | normal => simp only [endQ, rv3, retV, retV1, h4]
    | ret => simp only [endQ, rv3, retV, retV1, h4]
  unfold qSt at hr
  have hsc : ∃ a b, sc3 = .seq a (.seq b restQ) := ⟨_, _, rfl⟩
  generalize hrest : restQ = R at hr
  have hsc : sc3 = .seq (match sc3 with | .seq a _ => a | _ => .bad) (.seq (match sc3 with | .seq _ (.seq b _) => b | _ => .bad) R) := by rw [← hrest]; rfl
  rw [hsc]
  simp only [sc3]
  cases b1 <;> cases b2 <;> simp only [go_sem, q1, q2, q3, w1, w2, w3, reduceIte, Nat.reduceAdd, Nat.reduceLT, Nat.reduceEqDiff, reduceCtorEq, Nat.reduceLeDiff, Bool.not_true, Bool.not_false, BEq.rfl, Bool.beq_eq_decide_eq, rv3]
  exact hr
end AM
