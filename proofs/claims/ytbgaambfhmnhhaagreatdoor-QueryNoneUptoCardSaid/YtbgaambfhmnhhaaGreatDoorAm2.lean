/- An abstract machine for the program of the seat, and what of the given program it does, part 3 of 4. Conditions: none. -/
import Derived.CheckFast
import Derived.Orders
import Derived.RangeFuncFrom
import Derived.TacticsIn
import Derived.Test.YtbgaambfhmnhhaaGreatDoorAm1
/-! The abstract machine's operations are monotone. -/
namespace AM
open Go
section
variable {P : Program} {gl : Glob} {D : Dets} {s : St}
theorem opX_mono {so : SOp} {K K' : St → Prop} (h : opX P gl D s K so) (hk : ∀ s, K s → K' s) : opX P gl D s K' so := by
  have hgen : ∀ so', so' = so → (match ev gl s so' with | some s' => K s' | none => False) → (match ev gl s so' with | some s' => K' s' | none => False) := by
    rintro _ rfl h
    split at h
    · exact hk _ h
    · exact h.elim
  cases so <;> first
    | exact hgen _ rfl h
    | skip
  case callP d f xs =>
    simp only [opX] at h ⊢
    split at h
    · refine ⟨h.1, ?_⟩
      have h := h.2
      split at h
      · refine ⟨h.1, ?_⟩
        have h := h.2
        split at h
        · exact hk _ h
        · exact h.elim
      · exact h.elim
    · exact h.elim
  case callI d f xs =>
    simp only [opX] at h ⊢
    split at h
    · refine h.mono fun r H hh => ?_
      split at hh
      · exact hk _ hh
      · exact hh.elim
    · exact h.elim
  case callV d x xs =>
    simp only [opX] at h ⊢
    split at h
    · refine h.mono fun r H hh => ?_
      split at hh
      · exact hk _ hh
      · exact hh.elim
    · exact h.elim
  case callR d f xs =>
    simp only [opX] at h ⊢
    split at h
    · refine h.mono fun r H hh => ⟨hh.1, ?_⟩
      have hh := hh.2
      split at hh
      · exact hk _ hh
      · exact hh.elim
    · exact h.elim
  case callG d f u xs =>
    simp only [opX] at h ⊢
    split at h
    · refine h.mono fun r H hh => ?_
      split at hh
      · exact hk _ hh
      · exact hh.elim
    · refine h.mono fun r H hh => ?_
      split at hh
      · exact hk _ hh
      · exact hh.elim
    · exact h.elim
  case nxt d it =>
    simp only [opX] at h ⊢
    split at h
    · split at h
      · split at h
        · exact hk _ h
        · exact h.elim
      · intro e he
        have := h e he
        split at this
        · exact hk _ this
        · exact this.elim
    · exact h.elim
theorem runR_mono {K K' : St → Prop} (hk : ∀ s, K s → K' s) : ∀ {its : List It} {s : St}, runR P gl D its s K → runR P gl D its s K'
  | [], _, h => hk _ h
  | it :: its, s, h => by
    simp only [runR] at h ⊢
    split at h
    · exact opX_mono h fun s h => runR_mono hk h
    · split at h
      · split at h
        · exact runR_mono hk h
        · exact h.elim
      · exact runR_mono hk h
    · exact h.elim
end
end AM
/-! What an operation over temporaries does not look at. -/
namespace AM
open Go

def opT : Opd → List Nat
  | .t n => [n]
  | _ => []
def opsT : List Opd → List Nat
  | [] => []
  | x :: r => opT x ++ opsT r
def oT : Option Opd → List Nat
  | none => []
  | some x => opT x
def partsT : List (Nat × Nat × Opd) → List Nat
  | [] => []
  | (_, _, x) :: r => opT x ++ partsT r
/-- The temporaries that an operation reads. -/
def rdT : SOp → List Nat
  | .mv _ x => opT x
  | .eqa _ _ _ x y => opT x ++ opT y
  | .not_ _ x => opT x
  | .neg _ x => opT x
  | .conv _ _ x => opT x
  | .len _ _ x => opT x
  | .box _ x => opT x
  | .boxH _ x => opT x
  | .boxI _ x => opT x
  | .fa _ x _ => opT x
  | .ld _ x _ _ => opT x
  | .ldt _ x _ _ => opT x
  | .nilchk _ x => opT x
  | .mkself _ x _ _ => opT x
  | .rng _ x => opT x
  | .nxt _ x => opT x
  | .entr _ x => opT x
  | .mks _ _ _ x => opT x
  | .isnil _ _ x => opT x
  | .clo _ x _ => opT x
  | .sdata _ x => opT x
  | .noesc _ _ x => opT x
  | .cvt _ x _ _ => opT x
  | .allocT _ _ _ => []
  | .tk _ x => [x]
  | .nil_ _ _ _ => []
  | .alloc _ _ => []
  | .allocH _ _ => []
  | .mkmap _ => []
  | .bad _ => []
  | .pick _ c x y => opT c ++ (opT x ++ opT y)
  | .bin _ _ _ x y => opT x ++ opT y
  | .ia _ _ x y => opT x ++ opT y
  | .iaa _ x _ _ y => opT x ++ opT y
  | .st _ x y => opT x ++ opT y
  | .idx _ x y => opT x ++ opT y
  | .mm _ _ x y => opT x ++ opT y
  | .look _ _ x y _ _ => opT x ++ opT y
  | .lookT _ _ x y _ => opT x ++ opT y
  | .mdel _ _ x y => opT x ++ opT y
  | .ustr _ _ x y => opT x ++ opT y
  | .cmps _ _ x y => opT x ++ opT y
  | .ext _ x _ => [x]
  | .build _ _ ps => partsT ps
  | .lit _ _ xs => opsT xs
  | .litO _ _ _ xs => opsT xs
  | .litH _ _ _ xs => opsT xs
  | .mkfn _ _ xs => opsT xs
  | .callP _ _ xs => opsT xs
  | .callI _ _ xs => opsT xs
  | .callR _ _ xs => opsT xs
  | .stt x v => v :: opT x
  | .slc _ _ x lo hi => opT x ++ (oT lo ++ oT hi)
  | .sla _ x _ _ lo hi => opT x ++ (oT lo ++ oT hi)
  | .app _ u x _ _ => u :: opT x
  | .appc _ u x _ _ => u :: opT x
  | .appd _ u x _ _ => u :: opT x
  | .apph _ _ _ _ u x => opT u ++ opT x
  | .upd _ m k v => opT m ++ (opT k ++ opT v)
  | .updT _ m k v => v :: (opT m ++ opT k)
  | .callG _ _ u xs => u :: opsT xs
  | .callV _ x xs => opT x ++ opsT xs
  | .on _ o => rdT o
/-- The temporaries that lose what they own. -/
def stT : SOp → List Nat
  | .tk _ x => [x]
  | .stt _ v => [v]
  | .app _ u _ _ _ => [u]
  | .updT _ _ _ v => [v]
  | .callG _ _ u _ => [u]
  | .on _ o => stT o
  | _ => []
/-- The temporaries that an operation writes. -/
def wrT (o : SOp) : List Nat := (match dstOf o with | some d => [d] | none => []) ++ stT o

namespace Env
theorem ins_comm (e : Env) {t u : Nat} (x y : Ent) (h : t ≠ u) : (e.ins t x).ins u y = (e.ins u y).ins t x := by
  induction e with
  | nil =>
    simp only [ins]
    by_cases h1 : u < t
    · simp [h1, show ¬ t < u by omega, show ¬ t = u by omega]
    · simp [h1, show t < u by omega, show ¬ u = t by omega]
  | cons p r ih =>
    obtain ⟨k, z⟩ := p
    simp only [ins]
    rcases Nat.lt_trichotomy t k with h1 | h1 | h1
    · rcases Nat.lt_trichotomy u k with h2 | h2 | h2
      · simp only [h1, h2, if_true, ins]
        by_cases h3 : u < t
        · simp [h3, show ¬ t < u by omega, show ¬ t = u by omega]
        · simp [h3, show t < u by omega, show ¬ u = t by omega]
      · subst h2
        simp only [h1, if_true, Nat.lt_irrefl, if_false, ins]
        simp [show ¬ u < t by omega, show ¬ u = t by omega]
      · simp only [h1, if_true, show ¬ u < k by omega, show ¬ u = k by omega, if_false, ins]
        simp [show ¬ u < t by omega, show ¬ u = t by omega]
    · subst h1
      rcases Nat.lt_trichotomy u t with h2 | h2 | h2
      · simp only [h2, if_true, Nat.lt_irrefl, if_false, ins]
        simp [show ¬ t < u by omega, show ¬ t = u by omega]
      · exact absurd h2.symm h
      · simp only [show ¬ u < t by omega, show ¬ u = t by omega, Nat.lt_irrefl, if_true, if_false, ins]
    · rcases Nat.lt_trichotomy u k with h2 | h2 | h2
      · simp only [h2, if_true, show ¬ t < k by omega, show ¬ t = k by omega, if_false, ins]
        simp [show ¬ t < u by omega, show ¬ t = u by omega]
      · subst h2
        simp only [show ¬ t < u by omega, show ¬ t = u by omega, Nat.lt_irrefl, if_true, if_false, ins]
      · simp only [show ¬ t < k by omega, show ¬ t = k by omega, show ¬ u < k by omega, show ¬ u = k by omega, if_false, ins, ih]
end Env

section
variable {gl : Glob} {env : Env} {d : Nat} {x : Ent}
theorem get_ins_ne {t : Nat} (h : t ≠ d) : (env.ins d x).get t = env.get t := by rw [Env.get_ins, if_neg h]
theorem evO_ins {y : Opd} (h : d ∉ opT y) : evO gl (env.ins d x) y = evO gl env y := by
  cases y <;> simp only [evO]
  rename_i n
  rw [get_ins_ne (by rintro rfl; simp [opT] at h)]
theorem evOs_ins : ∀ {ys : List Opd}, d ∉ opsT ys → evOs gl (env.ins d x) ys = evOs gl env ys
  | [], _ => rfl
  | y :: ys, h => by
    simp only [opsT, List.mem_append, not_or] at h
    simp only [evOs, evO_ins h.1, evOs_ins h.2]
theorem bnd_ins {n : Nat} {y : Option Opd} (h : d ∉ oT y) : bnd gl (env.ins d x) n y = bnd gl env n y := by
  cases y with
  | none => rfl
  | some y => simp only [bnd, evO_ins (y := y) h]
theorem fillParts_ins : ∀ {ps : List (Nat × Nat × Opd)} {z : List AV}, d ∉ partsT ps → fillParts gl (env.ins d x) z ps = fillParts gl env z ps
  | [], _, _ => rfl
  | (a, b, y) :: ps, z, h => by
    simp only [partsT, List.mem_append, not_or] at h
    simp only [fillParts, evO_ins h.1, fillParts_ins h.2]
theorem adr_ins {y : Opd} (h : d ∉ opT y) : adr gl (env.ins d x) y = adr gl env y := by
  cases y <;> simp only [adr]
  rename_i n
  rw [get_ins_ne (by rintro rfl; simp [opT] at h)]
theorem adrKind_ins {y : Opd} (h : d ∉ opT y) : adrKind (env.ins d x) y = adrKind env y := by
  cases y <;> simp only [adrKind]
  rename_i n
  rw [get_ins_ne (by rintro rfl; simp [opT] at h)]
theorem okPut_ins {t : Nat} (h : t ≠ d) : okPut (env.ins d x) t = okPut env t := by simp only [okPut, get_ins_ne h]
/-- The frame's view of a result. -/
def fr (d : Nat) (x : Ent) (H : List AObj) (s : St) : St := ⟨s.env.ins d x, H⟩
theorem put_fr {H H' : List AObj} {t : Nat} {y : AV} (h : t ≠ d) : (⟨env.ins d x, H'⟩ : St).put t y = ((⟨env, H⟩ : St).put t y).map (fr d x H') := by
  simp only [St.put, okPut_ins h]
  split
  · simp only [Option.map_some, fr]; rw [Env.ins_comm _ _ _ (Ne.symm h)]
  · rfl
theorem putO_fr {H H' : List AObj} {t : Option Nat} {y : AV} (h : ∀ u, t = some u → u ≠ d) : (⟨env.ins d x, H'⟩ : St).putO t y = ((⟨env, H⟩ : St).putO t y).map (fr d x H') := by
  cases t with
  | none => rfl
  | some t => exact put_fr (h t rfl)
theorem ins_fr {H H' : List AObj} {t : Nat} {y : Ent} (h : t ≠ d) : (some ⟨(env.ins d x).ins t y, H'⟩ : Option St) = (some (⟨env.ins t y, H⟩ : St)).map (fr d x H') := by
  simp only [Option.map_some, fr]; rw [Env.ins_comm _ _ _ (Ne.symm h)]
theorem bind_fr {α : Type} {o : Option α} {f : α → Option St} {f' : α → Option St} {H' : List AObj} (h : ∀ a, f' a = (f a).map (fr d x H')) : o.bind f' = (o.bind f).map (fr d x H') := by
  cases o with
  | none => rfl
  | some a => exact h a
end
end AM
/-! Operations over temporaries: they look at few of them. -/
namespace AM
open Go

/-- Classes: 0 over temporaries, 1 the same with addresses, 2 new boxes, 3 writes boxes, 4 over the heap, 5 reads the heap, 6 a call that leaves the heap, 7 reads boxes, 9 others. -/
def kls : SOp → Nat
  | .mv _ _ | .tk _ _ | .nil_ _ _ _ | .pick _ _ _ _ | .bin _ _ _ _ _ | .eqa _ _ _ _ _ | .not_ _ _ | .neg _ _ | .conv _ _ _ | .ext _ _ _ | .boxI _ _ | .build _ _ _ | .lit _ _ _ | .litO _ _ _ _
  | .ia _ _ _ _ | .idx _ _ _ | .slc _ _ _ _ _ | .sla _ _ _ _ _ _ | .app _ _ _ _ _ | .appc _ _ _ _ _ | .mkfn _ _ _ | .mkself _ _ _ _ | .mm _ _ _ _ | .isnil _ _ _ | .clo _ _ _ | .sdata _ _
  | .noesc _ _ _ | .cmps _ _ _ _ | .callP _ _ _ => 0
  | .fa _ _ _ | .iaa _ _ _ _ _ | .nilchk _ _ => 1
  | .len _ m _ => if m = 2 then 5 else 0
  | .alloc _ _ | .box _ _ => 2
  | .look _ _ _ _ _ _ | .entr _ _ => 5
  | .callR _ _ _ => 6
  | .on m (.ld _ _ _ _) => if m = 3 then 0 else if m = 4 then 5 else if m = 1 ∨ m = 2 then 7 else 9
  | .on m (.fa _ _ _) | .on m (.nilchk _ _) => if m = 3 ∨ m = 4 then 0 else 9
  | .on m (.ldt _ _ _ _) | .on m (.st _ _ _) | .on m (.stt _ _) => if m = 4 then 4 else if m = 1 ∨ m = 2 then 3 else 9
  | .lookT _ _ _ _ _ | .upd _ _ _ _ | .updT _ _ _ _ | .mdel _ _ _ _ | .mkmap _ | .rng _ _ | .nxt _ _ | .litH _ _ _ _ | .mks _ _ _ _ | .allocT _ _ _ | .cvt _ _ _ _ | .allocH _ _ | .boxH _ _ | .apph _ _ _ _ _ _ | .appd _ _ _ _ _ | .ustr _ _ _ _
  | .callI _ _ _ | .callG _ _ _ _ | .callV _ _ _ => 4
  | _ => 9
def Ent.isB : Ent → Bool
  | .b _ => true
  | _ => false
def Ent.isA : Ent → Bool
  | .a _ _ => true
  | _ => false
section
variable {gl : Glob} {env : Env} {d : Nat} {x : Ent} {H H' : List AObj}
theorem nmem {t : Nat} {l : List Nat} (h : d ∉ l) (ht : t ∈ l) : t ≠ d := fun e => h (e ▸ ht)
theorem dst_ne {o : SOp} (hw : d ∉ wrT o) {t : Nat} (ht : dstOf o = some t) : t ≠ d := fun e => hw (by simp [wrT, ht, e])
theorem st_ne {o : SOp} (hw : d ∉ wrT o) {t : Nat} (ht : t ∈ stT o) : t ≠ d := fun e => hw (by simp [wrT, ← e, ht])

theorem put_fr' {s : St} {t : Nat} {y : AV} (h : t ≠ d) : (fr d x H' s).put t y = (s.put t y).map (fr d x H') := put_fr (H := s.heap) h
theorem put2_fr {t u : Nat} {y z : AV} (h1 : t ≠ d) (h2 : u ≠ d) : ((⟨env.ins d x, H'⟩ : St).put t y).bind (fun s => s.put u z) = (((⟨env, H⟩ : St).put t y).bind fun s => s.put u z).map (fr d x H') := by
  rw [put_fr (H := H) h1]
  cases (⟨env, H⟩ : St).put t y with
  | none => rfl
  | some s => exact put_fr' h2
/-- An operation over temporaries, in a frame. -/
theorem ev_fr {o : SOp} (hk : kls o = 0 ∨ kls o = 1) (hon : ∀ m o', o ≠ .on m o') (hr : d ∉ rdT o) (hw : d ∉ wrT o) : ev gl ⟨env.ins d x, H'⟩ o = (ev gl ⟨env, H⟩ o).map (fr d x H') := by
  cases o <;> simp only [kls, reduceCtorEq, or_self, Nat.reduceEqDiff] at hk
  case on m o' => exact absurd rfl (hon m o')
  case callP => rfl
  case tk d2 y =>
    have h1 : y ≠ d := nmem hr (by simp [rdT])
    have h2 : d2 ≠ d := dst_ne hw rfl
    simp only [ev, get_ins_ne h1]
    split
    · split
      · rfl
      · exact put2_fr h1 h2
    · exact put_fr h2
    · rfl
  case ext d2 y i =>
    have h1 : y ≠ d := nmem hr (by simp [rdT])
    simp only [ev, get_ins_ne h1]
    split
    · exact bind_fr fun v => put_fr (dst_ne hw rfl)
    · rfl
  case app d2 u y e sz =>
    have h1 : u ≠ d := nmem hr (by simp [rdT])
    have h2 : d2 ≠ d := dst_ne hw rfl
    have h3 : d ∉ opT y := fun h => hr (by simp [rdT, h])
    simp only [ev, get_ins_ne h1, evO_ins h3]
    split
    · split
      · exact put2_fr h1 h2
      · rfl
    · split
      · exact put_fr h2
      · rfl
    · rfl
  case appc d2 u y e sz =>
    have h1 : u ≠ d := nmem hr (by simp [rdT])
    have h2 : d2 ≠ d := dst_ne hw rfl
    have h3 : d ∉ opT y := fun h => hr (by simp [rdT, h])
    simp only [ev, get_ins_ne h1, evO_ins h3]
    split
    · split
      · split
        · exact put_fr h2
        · exact put_fr h2
      · rfl
    · rfl
  case fa d2 y off =>
    have h2 : d2 ≠ d := dst_ne hw rfl
    simp only [rdT] at hr
    simp only [ev, adr_ins hr, okPut_ins h2]
    split
    · split
      · exact ins_fr h2
      · rfl
    · exact put_fr h2
    · split
      · exact put_fr h2
      · rfl
    · rfl
  case iaa d2 y n sz i =>
    have h2 : d2 ≠ d := dst_ne hw rfl
    simp only [rdT, List.mem_append, not_or] at hr
    simp only [ev, adr_ins hr.1, evO_ins hr.2, okPut_ins h2]
    split
    · split
      · exact ins_fr h2
      · rfl
    · split
      · exact put_fr h2
      · rfl
    · split
      · exact put_fr h2
      · rfl
    · rfl
  case nilchk d2 y =>
    have h2 : d2 ≠ d := dst_ne hw rfl
    simp only [rdT] at hr
    cases y with
    | t n =>
      have h1 : n ≠ d := nmem hr (by simp [opT])
      simp only [ev, get_ins_ne h1, okPut_ins h2]
      split
      · split
        · exact ins_fr h2
        · rfl
      · split
        · exact ins_fr h2
        · rfl
      · exact put_fr h2
      · exact put_fr h2
      · rfl
    | _ => rfl
  case len d2 m y =>
    have hm : m ≠ 2 := by rintro rfl; simp at hk
    have h2 : d2 ≠ d := dst_ne hw rfl
    simp only [rdT] at hr
    simp only [ev, evO_ins hr, hm, if_false]
    repeat' (first | exact put_fr h2 | rfl | split)
  all_goals
    have h2 := fun t ht => dst_ne (t := t) hw ht
    simp only [dstOf, Option.some.injEq, forall_eq'] at h2
    simp only [rdT] at hr
    simp (disch := (refine mt (fun h0 => ?_) hr; simp [h0])) only [ev, evO_ins, evOs_ins, bnd_ins, fillParts_ins, adr_ins]
    repeat' (first | exact put_fr h2 | rfl | (refine bind_fr fun _ => ?_) | split)
/-- An immutable address needs no memory. -/
theorem adr_im {y : Opd} (h : adrKind env y = 3) : adr gl env y = none ∨ ∃ cs, adr gl env y = some (.im cs) := by
  cases y with
  | t n =>
    simp only [adrKind] at h
    simp only [adr]
    split at h <;> simp_all
  | g n =>
    simp only [adr]
    split
    · exact .inr ⟨_, rfl⟩
    · exact .inl rfl
  | _ => simp [adrKind] at h
theorem adr_box {y : Opd} (h : adrKind env y = 1 ∨ adrKind env y = 2) : ∃ t off, adr gl env y = some (.bx t off) := by
  cases y with
  | t n =>
    simp only [adrKind] at h
    simp only [adr]
    split at h <;> simp_all
  | _ => simp [adrKind] at h
theorem adr_heap {y : Opd} (h : adrKind env y = 4) : ∃ id off, adr gl env y = some (.hp id off) := by
  cases y with
  | t n =>
    simp only [adrKind] at h
    simp only [adr]
    split at h <;> simp_all
  | _ => simp [adrKind] at h
theorem rdAt_ins {n t off : Nat} (hx : x.isB = false) (ho : ∀ cs, env.get d ≠ some (.b cs)) : rdAt ⟨env.ins d x, H'⟩ n (.bx t off) = rdAt ⟨env, H⟩ n (.bx t off) := by
  simp only [rdAt, Env.get_ins]
  by_cases h : t = d
  · subst h
    simp only [if_true]
    cases x with
    | b cs => simp [Ent.isB] at hx
    | _ =>
      cases he : env.get t with
      | none => rfl
      | some e => cases e with
        | b cs => exact absurd he (ho cs)
        | _ => rfl
  · simp only [h, if_false]
theorem wrAt_ins {t off : Nat} {vs : List AV} (hx : x.isB = false) (ho : ∀ cs, env.get d ≠ some (.b cs)) : wrAt ⟨env.ins d x, H'⟩ vs (.bx t off) = (wrAt ⟨env, H⟩ vs (.bx t off)).map (fr d x H') := by
  simp only [wrAt, Env.get_ins]
  by_cases h : t = d
  · subst h
    simp only [if_true]
    cases x with
    | b cs => simp [Ent.isB] at hx
    | _ =>
      cases he : env.get t with
      | none => rfl
      | some e => cases e with
        | b cs => exact absurd he (ho cs)
        | _ => rfl
  · simp only [h, if_false]
    split
    · split
      · simp only [Option.map_some, fr]; rw [Env.ins_comm _ _ _ (Ne.symm h)]
      · rfl
    · rfl
theorem wrAt_fr' {s : St} {t off : Nat} {vs : List AV} (hx : x.isB = false) (ho : ∀ cs, s.env.get d ≠ some (.b cs)) : wrAt (fr d x H' s) vs (.bx t off) = (wrAt s vs (.bx t off)).map (fr d x H') :=
  wrAt_ins (H := s.heap) hx ho
theorem on_pos {s : St} {m : Nat} {o : SOp} (h : adrKind s.env (adrOf o) = m) : ev gl s (.on m o) = ev gl s o := by simp only [ev, h, if_true]
theorem on_neg {s : St} {m : Nat} {o : SOp} (h : ¬ adrKind s.env (adrOf o) = m) : ev gl s (.on m o) = none := by simp only [ev, h, if_false]
/-- What an address of no box comes to. -/
def onV (gl : Glob) (env : Env) (m : Nat) (y : Opd) (off : Nat) (nc : Bool) : Option AV :=
  if adrKind env y = m then (match nc, y with
    | true, .g _ => none
    | _, _ => match adr gl env y with
      | some (.hp id o) => some (.ptr id (o + off))
      | some (.im cs) => if off ≤ cs.length then some (.cptr (cs.drop off)) else none
      | _ => none) else none
theorem on_fa {m d off : Nat} {y : Opd} (hm : m = 3 ∨ m = 4) : ev gl ⟨env, H⟩ (.on m (.fa d y off)) = (onV gl env m y off false).bind fun v => (⟨env, H⟩ : St).put d v := by
  by_cases hk : adrKind env y = m
  · rw [on_pos (s := ⟨env, H⟩) (by simp only [adrOf, hk])]
    simp only [ev, onV, if_pos hk]
    rcases hm with rfl | rfl
    · rcases adr_im (gl := gl) hk with h | ⟨cs, h⟩
      · rw [h]; rfl
      · rw [h]
        simp only
        split <;> rfl
    · obtain ⟨id, o, h⟩ := adr_heap (gl := gl) hk
      rw [h]; rfl
  · rw [on_neg (s := ⟨env, H⟩) (by simp only [adrOf]; exact hk)]
    simp only [onV, if_neg hk]; rfl
theorem on_nc {m d : Nat} {y : Opd} (hm : m = 3 ∨ m = 4) : ev gl ⟨env, H⟩ (.on m (.nilchk d y)) = (onV gl env m y 0 true).bind fun v => (⟨env, H⟩ : St).put d v := by
  by_cases hk : adrKind env y = m
  · rw [on_pos (s := ⟨env, H⟩) (by simp only [adrOf, hk])]
    simp only [ev, onV, if_pos hk]
    cases y with
    | t n =>
      simp only [adrKind] at hk
      simp only [adr]
      split at hk
      · subst hk; simp at hm
      · subst hk; simp at hm
      · rename_i cs h; rw [h]; simp
      · rename_i id o h; rw [h]; simp
      · subst hk; simp at hm
    | g n => rfl
    | _ => simp [adrKind] at hk; subst hk; simp at hm
  · rw [on_neg (s := ⟨env, H⟩) (by simp only [adrOf]; exact hk)]
    simp only [onV, if_neg hk]; rfl
theorem onV_ins {m off : Nat} {y : Opd} {nc : Bool} (h : d ∉ opT y) : onV gl (env.ins d x) m y off nc = onV gl env m y off nc := by
  simp only [onV, adrKind_ins h, adr_ins h]
theorem fa_fr {m d2 off : Nat} {y : Opd} (hm : m = 3 ∨ m = 4) (hr : d ∉ opT y) (h2 : d2 ≠ d) :
    ev gl ⟨env.ins d x, H'⟩ (.on m (.fa d2 y off)) = (ev gl ⟨env, H⟩ (.on m (.fa d2 y off))).map (fr d x H') := by
  rw [on_fa hm, on_fa hm, onV_ins hr]
  exact bind_fr fun v => put_fr h2
theorem nc_fr {m d2 : Nat} {y : Opd} (hm : m = 3 ∨ m = 4) (hr : d ∉ opT y) (h2 : d2 ≠ d) :
    ev gl ⟨env.ins d x, H'⟩ (.on m (.nilchk d2 y)) = (ev gl ⟨env, H⟩ (.on m (.nilchk d2 y))).map (fr d x H') := by
  rw [on_nc hm, on_nc hm, onV_ins hr]
  exact bind_fr fun v => put_fr h2
/-- A load of something immutable, or of a box. -/
theorem ld_fr {m d2 n : Nat} {y : Opd} {ag : Bool} (hm : m = 3 ∨ ((m = 1 ∨ m = 2) ∧ x.isB = false ∧ ∀ cs, env.get d ≠ some (.b cs))) (hr : d ∉ opT y) (h2 : d2 ≠ d) :
    ev gl ⟨env.ins d x, H'⟩ (.on m (.ld d2 y n ag)) = (ev gl ⟨env, H⟩ (.on m (.ld d2 y n ag))).map (fr d x H') := by
  have key : ∀ p, adr gl env y = some p → adrKind env y = m → rdAt ⟨env.ins d x, H'⟩ n p = rdAt ⟨env, H⟩ n p := by
    intro p hp hk
    rcases hm with rfl | ⟨hm, hx, ho⟩
    · rcases adr_im (gl := gl) hk with h | ⟨cs, h⟩
      · rw [h] at hp; cases hp
      · rw [h] at hp; simp at hp; subst hp; rfl
    · obtain ⟨t, off, h⟩ := adr_box (gl := gl) (by rw [hk]; exact hm)
      rw [h] at hp; simp at hp; subst hp
      exact rdAt_ins hx ho
  by_cases hk : adrKind env y = m
  · rw [on_pos (s := ⟨env.ins d x, H'⟩) (by simp only [adrOf, adrKind_ins hr, hk]), on_pos (s := ⟨env, H⟩) (by simp only [adrOf, hk])]
    simp only [ev, adr_ins hr]
    cases hp : adr gl env y with
    | none => rfl
    | some p =>
      simp only [Option.bind_some, key p hp hk]
      refine bind_fr fun cs => ?_
      split
      · exact put_fr h2
      · split
        · exact put_fr h2
        · rfl
  · rw [on_neg (s := ⟨env.ins d x, H'⟩) (by simp only [adrOf, adrKind_ins hr]; exact hk), on_neg (s := ⟨env, H⟩) (by simp only [adrOf]; exact hk)]; rfl
theorem bx_ldt {m d2 e sz : Nat} {y : Opd} (hm : m = 1 ∨ m = 2) (hx : x.isB = false) (ho : ∀ cs, env.get d ≠ some (.b cs)) (hr : d ∉ opT y) (h2 : d2 ≠ d) :
    ev gl ⟨env.ins d x, H'⟩ (.on m (.ldt d2 y e sz)) = (ev gl ⟨env, H⟩ (.on m (.ldt d2 y e sz))).map (fr d x H') := by
  by_cases hk : adrKind env y = m
  · rw [on_pos (s := ⟨env.ins d x, H'⟩) (by simp only [adrOf, adrKind_ins hr, hk]), on_pos (s := ⟨env, H⟩) (by simp only [adrOf, hk])]
    simp only [ev, adr_ins hr]
    obtain ⟨t, off, h⟩ := adr_box (env := env) (gl := gl) (y := y) (by rw [hk]; exact hm)
    simp only [h, Option.bind_some, rdAt_ins (H := H) (H' := H') hx ho]
    refine bind_fr fun cs => ?_
    split
    · rw [wrAt_ins (H := H) hx ho]
      cases wrAt ⟨env, H⟩ _ (.bx t off) with
      | none => rfl
      | some s => exact put_fr' h2
    · exact put_fr h2
    · rfl
  · rw [on_neg (s := ⟨env.ins d x, H'⟩) (by simp only [adrOf, adrKind_ins hr]; exact hk), on_neg (s := ⟨env, H⟩) (by simp only [adrOf]; exact hk)]; rfl
theorem bx_st {m n : Nat} {y v : Opd} (hm : m = 1 ∨ m = 2) (hx : x.isB = false) (ho : ∀ cs, env.get d ≠ some (.b cs)) (hr : d ∉ opT y) (hr2 : d ∉ opT v) :
    ev gl ⟨env.ins d x, H'⟩ (.on m (.st n y v)) = (ev gl ⟨env, H⟩ (.on m (.st n y v))).map (fr d x H') := by
  by_cases hk : adrKind env y = m
  · rw [on_pos (s := ⟨env.ins d x, H'⟩) (by simp only [adrOf, adrKind_ins hr, hk]), on_pos (s := ⟨env, H⟩) (by simp only [adrOf, hk])]
    simp only [ev, adr_ins hr, evO_ins hr2]
    obtain ⟨t, off, h⟩ := adr_box (env := env) (gl := gl) (y := y) (by rw [hk]; exact hm)
    simp only [h, Option.bind_some]
    refine bind_fr fun u => ?_
    split
    · exact wrAt_ins hx ho
    · rfl
  · rw [on_neg (s := ⟨env.ins d x, H'⟩) (by simp only [adrOf, adrKind_ins hr]; exact hk), on_neg (s := ⟨env, H⟩) (by simp only [adrOf]; exact hk)]; rfl
theorem bx_stt {m v : Nat} {y : Opd} (hm : m = 1 ∨ m = 2) (hx : x.isB = false) (ho : ∀ cs, env.get d ≠ some (.b cs)) (hr : d ∉ opT y) (hv : v ≠ d) :
    ev gl ⟨env.ins d x, H'⟩ (.on m (.stt y v)) = (ev gl ⟨env, H⟩ (.on m (.stt y v))).map (fr d x H') := by
  by_cases hk : adrKind env y = m
  · rw [on_pos (s := ⟨env.ins d x, H'⟩) (by simp only [adrOf, adrKind_ins hr, hk]), on_pos (s := ⟨env, H⟩) (by simp only [adrOf, hk])]
    simp only [ev, adr_ins hr, get_ins_ne hv]
    obtain ⟨t, off, h⟩ := adr_box (env := env) (gl := gl) (y := y) (by rw [hk]; exact hm)
    simp only [h, Option.bind_some]
    split
    · rename_i e sz xs hvx
      rw [put_fr (H := H) hv]
      cases hp : (⟨env, H⟩ : St).put v (.list none sz xs) with
      | none => rfl
      | some s =>
        simp only [Option.map_some, Option.bind_some]
        refine wrAt_fr' hx fun cs hc => ?_
        simp only [St.put] at hp
        split at hp
        · simp only [Option.some.injEq] at hp
          rw [← hp, Env.get_ins, if_neg (Ne.symm hv)] at hc
          exact ho cs hc
        · cases hp
    · rfl
  · rw [on_neg (s := ⟨env.ins d x, H'⟩) (by simp only [adrOf, adrKind_ins hr]; exact hk), on_neg (s := ⟨env, H⟩) (by simp only [adrOf]; exact hk)]; rfl
theorem hasA_ins {t : Nat} (hx : x.isA = false) (ho : ∀ u off, env.get d ≠ some (.a u off)) (hs : env.Sorted) : hasA (env.ins d x) t = hasA env t := by
  rw [Bool.eq_iff_iff]
  simp only [hasA, List.any_eq_true]
  constructor
  · rintro ⟨p, hp, hq⟩
    rcases Env.mem_ins hp with rfl | hp
    · cases x with
      | a u off => simp [Ent.isA] at hx
      | _ => simp at hq
    · exact ⟨p, hp, hq⟩
  · rintro ⟨p, hp, hq⟩
    obtain ⟨k, e⟩ := p
    cases e with
    | a u off =>
      have hg := Env.get_of_mem hs hp
      have hk : k ≠ d := by rintro rfl; exact ho _ _ hg
      exact ⟨(k, .a u off), Env.mem_of_get (by rw [get_ins_ne hk]; exact hg), hq⟩
    | _ => simp at hq
end
end AM
/-! Operations run alike over temporaries that look alike. -/
namespace AM
open Go
/-- What is seen of a temporary: of a box, that it is one. -/
def vw (env : Env) (t : Nat) : Option Ent := match Env.get env t with
  | some (.b _) => some (.b [])
  | e => e
def upds (env : Env) : List (Nat × Ent) → Env
  | [] => env
  | (t, x) :: us => upds (env.ins t x) us
/-- Updates of an operation of class k that writes W. -/
structure UOk (W : List Nat) (k : Nat) (env : Env) (us : List (Nat × Ent)) : Prop where
  mem : ∀ p ∈ us, p.1 ∈ W
  box : ∀ p ∈ us, p.2.isB = true → k = 2 ∧ isA env p.1 = false
  put : ∀ p ∈ us, p.2.isB = false → okPut env p.1 = true
  adr : ∀ p ∈ us, p.2.isA = true → k = 1
  one : us.length ≤ 1 ∨ ∀ p ∈ us, p.2.isA = false ∧ p.2.isB = false
def appU (env : Env) (p : List (Nat × Ent) × List AObj) : St := ⟨upds env p.1, p.2⟩
/-- Two runs with the same updates. -/
def Par (W : List Nat) (k : Nat) (env env2 : Env) (X Y : Option St) : Prop :=
  ∃ U : Option (List (Nat × Ent) × List AObj), (∀ p, U = some p → UOk W k env p.1) ∧ X = U.map (appU env) ∧ Y = U.map (appU env2)

section
variable {gl : Glob} {env env2 : Env} {H H' : List AObj} {W : List Nat} {k : Nat}
theorem vw_eq {t : Nat} (h : vw env2 t = vw env t) : Env.get env2 t = Env.get env t ∨ ∃ cs cs', Env.get env t = some (.b cs) ∧ Env.get env2 t = some (.b cs') := by
  unfold vw at h
  split at h
  · rename_i cs' h1
    split at h
    · rename_i cs h2; exact .inr ⟨cs, cs', h2, h1⟩
    · rename_i hh; exact absurd h.symm (hh [])
  · rename_i e2 hh
    split at h
    · exact absurd h (hh [])
    · exact .inl h
theorem evO_vw {y : Opd} (h : ∀ t ∈ opT y, vw env2 t = vw env t) : evO gl env2 y = evO gl env y := by
  cases y <;> simp only [evO]
  rename_i n
  rcases vw_eq (h n (by simp [opT])) with h | ⟨cs, cs', h1, h2⟩
  · rw [h]
  · rw [h1, h2]
theorem evOs_vw : ∀ {ys : List Opd}, (∀ t ∈ opsT ys, vw env2 t = vw env t) → evOs gl env2 ys = evOs gl env ys
  | [], _ => rfl
  | y :: ys, h => by
    simp only [evOs, evO_vw (y := y) fun t ht => h t (by simp [opsT, ht]), evOs_vw (ys := ys) fun t ht => h t (by simp [opsT, ht])]
theorem bnd_vw {n : Nat} {y : Option Opd} (h : ∀ t ∈ oT y, vw env2 t = vw env t) : bnd gl env2 n y = bnd gl env n y := by
  cases y with
  | none => rfl
  | some y => simp only [bnd, evO_vw (y := y) h]
theorem fillParts_vw : ∀ {ps : List (Nat × Nat × Opd)} {z : List AV}, (∀ t ∈ partsT ps, vw env2 t = vw env t) → fillParts gl env2 z ps = fillParts gl env z ps
  | [], _, _ => rfl
  | (a, b, y) :: ps, z, h => by
    have h1 := evO_vw (gl := gl) (y := y) (env := env) (env2 := env2) fun t ht => h t (by simp [partsT, ht])
    simp only [fillParts, h1]
    split
    · split
      · exact fillParts_vw fun t ht => h t (by simp [partsT, ht])
      · rfl
    · rfl
theorem adr_vw {y : Opd} (h : ∀ t ∈ opT y, vw env2 t = vw env t) : adr gl env2 y = adr gl env y := by
  cases y <;> simp only [adr]
  rename_i n
  rcases vw_eq (h n (by simp [opT])) with h | ⟨cs, cs', h1, h2⟩
  · rw [h]
  · rw [h1, h2]
theorem adrKind_vw {y : Opd} (h : ∀ t ∈ opT y, vw env2 t = vw env t) : adrKind env2 y = adrKind env y := by
  cases y <;> simp only [adrKind]
  rename_i n
  rcases vw_eq (h n (by simp [opT])) with h | ⟨cs, cs', h1, h2⟩
  · rw [h]
  · rw [h1, h2]
theorem okPut_vw {t : Nat} (h : vw env2 t = vw env t) : okPut env2 t = okPut env t := by
  unfold okPut
  rcases vw_eq h with h | ⟨cs, cs', h1, h2⟩
  · rw [h]
  · rw [h1, h2]
theorem isA_vw {t : Nat} (h : vw env2 t = vw env t) : isA env2 t = isA env t := by
  unfold isA
  rcases vw_eq h with h | ⟨cs, cs', h1, h2⟩
  · rw [h]
  · rw [h1, h2]
theorem par_none : Par W k env env2 none none := ⟨none, by simp, rfl, rfl⟩
theorem par_bind {α : Type} {o : Option α} {f f' : α → Option St} (h : ∀ a, Par W k env env2 (f a) (f' a)) : Par W k env env2 (o.bind f) (o.bind f') := by
  cases o with
  | none => exact par_none
  | some a => exact h a
theorem par_put {t : Nat} {y : AV} (h : vw env2 t = vw env t) (ht : t ∈ W) : Par W k env env2 ((⟨env, H⟩ : St).put t y) ((⟨env2, H⟩ : St).put t y) := by
  unfold St.put
  rw [okPut_vw h]
  by_cases hk : okPut env t = true
  · rw [if_pos hk, if_pos hk]
    exact ⟨some ([(t, .v y)], H), by intro p hp; cases hp; exact ⟨by simpa using ht, by simp [Ent.isB], by simpa using fun _ => hk, by simp [Ent.isA], .inl (by simp)⟩, rfl, rfl⟩
  · rw [if_neg hk, if_neg hk]; exact par_none
theorem par_heap : Par W k env env2 (some ⟨env, H⟩) (some ⟨env2, H⟩) :=
  ⟨some ([], H), by intro p hp; cases hp; exact ⟨by simp, by simp, by simp, by simp, .inl (by simp)⟩, rfl, rfl⟩
theorem par_putO {t : Option Nat} {y : AV} (h : ∀ u, t = some u → vw env2 u = vw env u ∧ u ∈ W) : Par W k env env2 ((⟨env, H⟩ : St).putO t y) ((⟨env2, H⟩ : St).putO t y) := by
  cases t with
  | none => exact par_heap
  | some t => exact par_put (h t rfl).1 (h t rfl).2
theorem par_put2 {t u : Nat} {y z : AV} (h : vw env2 t = vw env t) (ht : t ∈ W) (h2 : vw env2 u = vw env u) (hu : u ∈ W) (hne : u ≠ t) :
    Par W k env env2 (((⟨env, H⟩ : St).put t y).bind fun s => s.put u z) (((⟨env2, H⟩ : St).put t y).bind fun s => s.put u z) := by
  unfold St.put
  rw [okPut_vw h]
  by_cases hk : okPut env t = true
  · rw [if_pos hk, if_pos hk]
    simp only [Option.bind_some]
    rw [okPut_ins hne, okPut_ins hne, okPut_vw h2]
    by_cases hk2 : okPut env u = true
    · rw [if_pos hk2, if_pos hk2]
      refine ⟨some ([(t, .v y), (u, .v z)], H), ?_, rfl, rfl⟩
      intro p hp; cases hp
      refine ⟨by simp [ht, hu], ?_, ?_, ?_, .inr ?_⟩
      · intro p hp; simp at hp; rcases hp with rfl | rfl <;> simp [Ent.isB]
      · intro p hp; simp at hp; rcases hp with rfl | rfl <;> simp [hk, hk2]
      · intro p hp; simp at hp; rcases hp with rfl | rfl <;> simp [Ent.isA]
      · intro p hp; simp at hp; rcases hp with rfl | rfl <;> simp [Ent.isA, Ent.isB]
    · rw [if_neg hk2, if_neg hk2]; exact par_none
  · rw [if_neg hk, if_neg hk]; exact par_none
theorem par_adr {t u off : Nat} (h : vw env2 t = vw env t) (ht : t ∈ W) (hk1 : k = 1) :
    Par W k env env2 (if okPut env t = true then some ⟨env.ins t (.a u off), H⟩ else none) (if okPut env2 t = true then some ⟨env2.ins t (.a u off), H⟩ else none) := by
  rw [okPut_vw h]
  by_cases hk : okPut env t = true
  · rw [if_pos hk, if_pos hk]
    exact ⟨some ([(t, .a u off)], H), by intro p hp; cases hp; exact ⟨by simpa using ht, by simp [Ent.isB], by simpa using fun _ => hk, by simp [hk1], .inl (by simp)⟩, rfl, rfl⟩
  · rw [if_neg hk, if_neg hk]; exact par_none
theorem par_putB {t : Nat} {cs : List AV} (h : vw env2 t = vw env t) (ht : t ∈ W) (hA : hasA env2 t = hasA env t) (hk2 : k = 2) : Par W k env env2 ((⟨env, H⟩ : St).putB t cs) ((⟨env2, H⟩ : St).putB t cs) := by
  unfold St.putB
  rw [isA_vw h, hA]
  by_cases hk : (hasA env t || isA env t) = true
  · rw [if_pos hk, if_pos hk]; exact par_none
  · rw [if_neg hk, if_neg hk]
    simp only [Bool.or_eq_true, not_or, Bool.not_eq_true] at hk
    exact ⟨some ([(t, .b cs)], H), by intro p hp; cases hp; exact ⟨by simpa using ht, by simpa using fun _ => ⟨hk2, hk.2⟩, by simp [Ent.isB], by simp [Ent.isA], .inl (by simp)⟩, rfl, rfl⟩

/-- What holds of two environments for an operation. -/
structure Alike (o : SOp) (env env2 : Env) : Prop where
  rd : ∀ t ∈ rdT o, vw env2 t = vw env t
  wr : ∀ t ∈ wrT o, vw env2 t = vw env t
  ha : kls o = 2 → ∀ t ∈ wrT o, hasA env2 t = hasA env t
  bx : kls o = 7 → ∀ t cs, env.get t = some (.b cs) ↔ env2.get t = some (.b cs)
theorem dst_mem {o : SOp} {t : Nat} (h : dstOf o = some t) : t ∈ wrT o := by simp [wrT, h]
theorem st_mem {o : SOp} {t : Nat} (h : t ∈ stT o) : t ∈ wrT o := by simp [wrT, h]

theorem ev_par {o : SOp} (hk : kls o ≠ 3 ∧ kls o ≠ 6 ∧ kls o ≠ 9) (hon : ∀ m o', o ≠ .on m o') (h : Alike o env env2) : Par (wrT o) (kls o) env env2 (ev gl ⟨env, H⟩ o) (ev gl ⟨env2, H⟩ o) := by
  cases o
  case on m o' => exact absurd rfl (hon m o')
  case callP => exact par_none
  case callI => exact par_none
  case callV => exact par_none
  case callG => exact par_none
  case callR => exact par_none
  case nxt => exact par_none
  case bad => simp [kls] at hk
  case ld => simp [kls] at hk
  case ldt => simp [kls] at hk
  case st => simp [kls] at hk
  case stt => simp [kls] at hk
  case tk d2 y =>
    have hy := h.rd y (by simp [rdT])
    have hd := h.wr d2 (dst_mem rfl)
    simp only [ev]
    rcases vw_eq hy with e | ⟨cs, cs', e1, e2⟩
    · rw [e]
      split
      · split
        · exact par_none
        · rename_i hne
          exact par_put2 hy (st_mem (by simp [stT])) hd (dst_mem rfl) hne
      · exact par_put hd (dst_mem rfl)
      · exact par_none
    · rw [e1, e2]; exact par_none
  case ext d2 y i =>
    have hy := h.rd y (by simp [rdT])
    have hd := h.wr d2 (dst_mem rfl)
    simp only [ev]
    rcases vw_eq hy with e | ⟨cs, cs', e1, e2⟩
    · rw [e]
      split
      · exact par_bind fun v => par_put hd (dst_mem rfl)
      · exact par_none
    · rw [e1, e2]; exact par_none
  case app d2 u y e sz =>
    have hy := h.rd u (by simp [rdT])
    have hd := h.wr d2 (dst_mem rfl)
    have ho := evO_vw (gl := gl) (y := y) (env := env) (env2 := env2) fun t ht => h.rd t (by simp [rdT, ht])
    simp only [ev, ho]
    rcases vw_eq hy with e | ⟨cs, cs', e1, e2⟩
    · rw [e]
      split
      · split
        · rename_i hh
          exact par_put2 hy (st_mem (by simp [stT])) hd (dst_mem rfl) hh.2.2.2.1
        · exact par_none
      · split
        · exact par_put hd (dst_mem rfl)
        · exact par_none
      · exact par_none
    · rw [e1, e2]; exact par_none
  case appc d2 u y e sz =>
    have hy := h.rd u (by simp [rdT])
    have hd := h.wr d2 (dst_mem rfl)
    have ho := evO_vw (gl := gl) (y := y) (env := env) (env2 := env2) fun t ht => h.rd t (by simp [rdT, ht])
    simp only [ev, ho]
    rcases vw_eq hy with e | ⟨cs, cs', e1, e2⟩
    · rw [e]
      split
      · split
        · split
          · exact par_put hd (dst_mem rfl)
          · exact par_put hd (dst_mem rfl)
        · exact par_none
      · exact par_none
    · rw [e1, e2]; exact par_none
  case appd d2 u y e sz =>
    have hy := h.rd u (by simp [rdT])
    have hd := h.wr d2 (dst_mem rfl)
    have ho := evO_vw (gl := gl) (y := y) (env := env) (env2 := env2) fun t ht => h.rd t (by simp [rdT, ht])
    simp only [ev, ho]
    rcases vw_eq hy with e | ⟨cs, cs', e1, e2⟩
    · rw [e]
      split
      · split
        · split
          · exact par_put hd (dst_mem rfl)
          · exact par_put hd (dst_mem rfl)
        · exact par_none
      · exact par_none
    · rw [e1, e2]; exact par_none
  case updT ks m kk v =>
    have hy := h.rd v (by simp [rdT])
    have hv := h.wr v (st_mem (by simp [stT]))
    have h1 := evO_vw (gl := gl) (y := m) (env := env) (env2 := env2) fun t ht => h.rd t (by simp [rdT, ht])
    have h2 := evO_vw (gl := gl) (y := kk) (env := env) (env2 := env2) fun t ht => h.rd t (by simp [rdT, ht])
    simp only [ev, h1, h2]
    rcases vw_eq hy with e | ⟨cs, cs', e1, e2⟩
    · rw [e]
      split
      · split
        · split
          · exact par_put hv (st_mem (by simp [stT]))
          · exact par_none
        · exact par_none
      · exact par_none
    · rw [e1, e2]
      split
      · rename_i hh; simp at hh
      · split
        · rename_i hh; simp at hh
        · exact par_none
  case nilchk d2 y =>
    have hd := h.wr d2 (dst_mem rfl)
    cases y with
    | t n =>
      have hy := h.rd n (by simp [rdT, opT])
      simp only [ev]
      rcases vw_eq hy with e | ⟨cs, cs', e1, e2⟩
      · rw [e]
        split
        · exact par_adr hd (dst_mem rfl) rfl
        · exact par_adr hd (dst_mem rfl) rfl
        · exact par_put hd (dst_mem rfl)
        · exact par_put hd (dst_mem rfl)
        · exact par_none
      · rw [e1, e2]; exact par_adr hd (dst_mem rfl) rfl
    | _ => exact par_none
  case fa d2 y off =>
    have hd := h.wr d2 (dst_mem rfl)
    have h1 := adr_vw (gl := gl) (y := y) (env := env) (env2 := env2) fun t ht => h.rd t (by simpa [rdT] using ht)
    simp only [ev, h1]
    split
    · exact par_adr hd (dst_mem rfl) rfl
    · exact par_put hd (dst_mem rfl)
    · split
      · exact par_put hd (dst_mem rfl)
      · exact par_none
    · exact par_none
  case iaa d2 y n sz i =>
    have hd := h.wr d2 (dst_mem rfl)
    have h1 := adr_vw (gl := gl) (y := y) (env := env) (env2 := env2) fun t ht => h.rd t (by simp [rdT, ht])
    have h2 := evO_vw (gl := gl) (y := i) (env := env) (env2 := env2) fun t ht => h.rd t (by simp [rdT, ht])
    simp only [ev, h1, h2, okPut_vw hd]
    split
    · rename_i t o kd j _ _
      by_cases hh : 0 ≤ j ∧ j < n ∧ okPut env d2 = true
      · rw [if_pos hh, if_pos hh]
        have := par_adr (H := H) (u := t) (off := o + j.toNat * sz) hd (dst_mem (o := .iaa d2 y n sz i) rfl) (rfl : kls (.iaa d2 y n sz i) = 1)
        rw [if_pos hh.2.2, if_pos (by rw [okPut_vw hd]; exact hh.2.2)] at this
        exact this
      · rw [if_neg hh, if_neg hh]; exact par_none
    · split
      · exact par_put hd (dst_mem rfl)
      · exact par_none
    · split
      · exact par_put hd (dst_mem rfl)
      · exact par_none
    · exact par_none
  case alloc d2 z => exact par_putB (h.wr d2 (dst_mem rfl)) (dst_mem rfl) (h.ha rfl d2 (dst_mem rfl)) rfl
  case box d2 y =>
    have h1 := evO_vw (gl := gl) (y := y) (env := env) (env2 := env2) fun t ht => h.rd t (by simpa [rdT] using ht)
    simp only [ev, h1]
    refine par_bind fun v => ?_
    split
    · exact par_putB (h.wr d2 (dst_mem rfl)) (dst_mem rfl) (h.ha rfl d2 (dst_mem rfl)) rfl
    · exact par_none
  case mdel ks d2 m kk =>
    have h1 := evO_vw (gl := gl) (y := m) (env := env) (env2 := env2) fun t ht => h.rd t (by simp [rdT, ht])
    have h2 := evO_vw (gl := gl) (y := kk) (env := env) (env2 := env2) fun t ht => h.rd t (by simp [rdT, ht])
    simp only [ev, h1, h2]
    split
    · split
      · split
        · exact par_putO fun u hu => ⟨h.wr u (dst_mem (by simpa [dstOf] using hu)), dst_mem (by simpa [dstOf] using hu)⟩
        · exact par_none
      · exact par_none
    · exact par_none
  case upd ks m kk v =>
    have h1 := evO_vw (gl := gl) (y := m) (env := env) (env2 := env2) fun t ht => h.rd t (by simp [rdT, ht])
    have h2 := evO_vw (gl := gl) (y := kk) (env := env) (env2 := env2) fun t ht => h.rd t (by simp [rdT, ht])
    have h3 := evO_vw (gl := gl) (y := v) (env := env) (env2 := env2) fun t ht => h.rd t (by simp [rdT, ht])
    simp only [ev, h1, h2, h3]
    split
    · split
      · split
        · exact par_heap
        · exact par_none
      · exact par_none
    · exact par_none
  all_goals
    have h2 := fun t ht => h.wr t (dst_mem (t := t) ht)
    simp only [dstOf, Option.some.injEq, forall_eq'] at h2
    have hr := h.rd
    simp only [rdT] at hr
    simp (disch := (intro t ht; apply hr; simp [ht])) only [ev, evO_vw (env := env) (env2 := env2), evOs_vw (env := env) (env2 := env2), bnd_vw (env := env) (env2 := env2), fillParts_vw (env := env) (env2 := env2), adr_vw (env := env) (env2 := env2)]
    repeat' (first | exact par_put h2 (dst_mem rfl) | exact par_none | (refine par_bind fun _ => ?_) | split)
theorem rd_box {n t off : Nat} (h : ∀ t cs, env.get t = some (.b cs) ↔ env2.get t = some (.b cs)) : rdAt ⟨env2, H⟩ n (.bx t off) = rdAt ⟨env, H⟩ n (.bx t off) := by
  simp only [rdAt]
  cases h1 : Env.get env t with
  | none =>
    cases h2 : Env.get env2 t with
    | none => rfl
    | some e => cases e with
      | b cs => rw [(h t cs).2 h2] at h1; cases h1
      | _ => rfl
  | some e => cases e with
    | b cs => rw [(h t cs).1 h1]
    | _ =>
      cases h2 : Env.get env2 t with
      | none => rfl
      | some e => cases e with
        | b cs => rw [(h t cs).2 h2] at h1; cases h1
        | _ => rfl
theorem on_ld_par {m d n : Nat} {y : Opd} {ag : Bool} (hk : kls (.on m (.ld d y n ag)) ≠ 9) (h : Alike (.on m (.ld d y n ag)) env env2) :
    Par (wrT (.on m (.ld d y n ag))) (kls (.on m (.ld d y n ag))) env env2 (ev gl ⟨env, H⟩ (.on m (.ld d y n ag))) (ev gl ⟨env2, H⟩ (.on m (.ld d y n ag))) := by
  have hr : ∀ t ∈ opT y, vw env2 t = vw env t := fun t ht => h.rd t (by simpa [rdT] using ht)
  have hkd := adrKind_vw hr
  by_cases hm : adrKind env y = m
  · rw [on_pos (s := ⟨env, H⟩) (by simp only [adrOf, hm]), on_pos (s := ⟨env2, H⟩) (by simp only [adrOf, hkd, hm])]
    simp only [ev, adr_vw hr]
    have key : ∀ p, adr gl env y = some p → rdAt ⟨env2, H⟩ n p = rdAt ⟨env, H⟩ n p := by
      intro p hp
      cases p with
      | hp id off => rfl
      | im cs => rfl
      | bx t off =>
        refine rd_box (h.bx ?_)
        simp only [kls] at hk ⊢
        have hm12 : m = 1 ∨ m = 2 := by
          rw [← hm]
          cases y <;> simp only [adr, reduceCtorEq] at hp
          · rename_i u
            simp only [adrKind]
            split at hp <;> simp_all
          · split at hp <;> simp at hp
        rcases hm12 with rfl | rfl <;> simp
    cases hp : adr gl env y with
    | none => exact par_none
    | some p =>
      simp only [Option.bind_some, key p hp]
      refine par_bind fun cs => ?_
      split
      · exact par_put (h.wr d (dst_mem rfl)) (dst_mem rfl)
      · split
        · exact par_put (h.wr d (dst_mem rfl)) (dst_mem rfl)
        · exact par_none
  · rw [on_neg (s := ⟨env, H⟩) (by simp only [adrOf]; exact hm), on_neg (s := ⟨env2, H⟩) (by simp only [adrOf, hkd]; exact hm)]
    exact par_none
theorem wr_heap {id off : Nat} {vs : List AV} : ∃ U : Option (List AObj), ∀ env, wrAt ⟨env, H⟩ vs (.hp id off) = U.map fun H' => ⟨env, H'⟩ := by
  simp only [wrAt]
  cases H[id]? with
  | none => exact ⟨none, fun _ => rfl⟩
  | some o =>
    cases o with
    | cells cs =>
      by_cases h : off + vs.length ≤ cs.length
      · exact ⟨some (H.set id (.cells (setCells cs off vs))), fun _ => by simp [h]⟩
      · exact ⟨none, fun _ => by simp [h]⟩
    | buf e cs =>
      by_cases h : off + vs.length ≤ cs.length
      · exact ⟨some (H.set id (.buf e (setCells cs off vs))), fun _ => by simp [h]⟩
      · exact ⟨none, fun _ => by simp [h]⟩
    | _ => exact ⟨none, fun _ => rfl⟩
theorem on_hp_par {m : Nat} {o : SOp} (ho : (∃ d y e sz, o = .ldt d y e sz) ∨ (∃ n y v, o = .st n y v) ∨ ∃ y v, o = .stt y v) (hk : kls (.on m o) = 4) (h : Alike (.on m o) env env2) :
    Par (wrT (.on m o)) (kls (.on m o)) env env2 (ev gl ⟨env, H⟩ (.on m o)) (ev gl ⟨env2, H⟩ (.on m o)) := by
  have hm4 : m = 4 := by
    rcases ho with ⟨d, y, e, sz, rfl⟩ | ⟨n, y, v, rfl⟩ | ⟨y, v, rfl⟩ <;>
    · simp only [kls] at hk
      split at hk
      · assumption
      · split at hk <;> cases hk
  subst hm4
  have hra : ∀ t ∈ opT (adrOf o), vw env2 t = vw env t := fun t ht => h.rd t (by
    rcases ho with ⟨d, y, e, sz, rfl⟩ | ⟨n, y, v, rfl⟩ | ⟨y, v, rfl⟩ <;> simp only [adrOf] at ht <;> simp [rdT, ht])
  have hkd := adrKind_vw hra
  by_cases hm : adrKind env (adrOf o) = 4
  · rw [on_pos (s := ⟨env, H⟩) (by simp only [hm]), on_pos (s := ⟨env2, H⟩) (by simp only [hkd, hm])]
    obtain ⟨id, off, ha⟩ := adr_heap (gl := gl) hm
    have ha2 : adr gl env2 (adrOf o) = some (.hp id off) := by rw [adr_vw hra, ha]
    rcases ho with ⟨d, y, e, sz, rfl⟩ | ⟨n, y, v, rfl⟩ | ⟨y, v, rfl⟩
    · simp only [adrOf] at ha ha2
      simp only [ev, ha, ha2, Option.bind_some]
      have hrd : rdAt ⟨env2, H⟩ 1 (.hp id off) = rdAt ⟨env, H⟩ 1 (.hp id off) := rfl
      rw [hrd]
      refine par_bind fun cs => ?_
      split
      · obtain ⟨U, hU⟩ := wr_heap (H := H) (id := id) (off := off) (vs := [.list none _ _])
        rw [hU env, hU env2]
        cases U with
        | none => exact par_none
        | some H' => exact par_put (h.wr d (dst_mem rfl)) (dst_mem rfl)
      · exact par_put (h.wr d (dst_mem rfl)) (dst_mem rfl)
      · exact par_none
    · simp only [adrOf] at ha ha2
      have hv := evO_vw (gl := gl) (y := v) (env := env) (env2 := env2) fun t ht => h.rd t (by simp [rdT, ht])
      simp only [ev, ha, ha2, hv, Option.bind_some]
      refine par_bind fun u => ?_
      split
      · obtain ⟨U, hU⟩ := wr_heap (H := H) (id := id) (off := off) (vs := u.cells.map AV.noOwn)
        rw [hU env, hU env2]
        cases U with
        | none => exact par_none
        | some H' => exact par_heap
      · exact par_none
    · simp only [adrOf] at ha ha2
      have hy := h.rd v (by simp [rdT])
      simp only [ev, ha, ha2, Option.bind_some]
      rcases vw_eq hy with e | ⟨cs, cs', e1, e2⟩
      · rw [e]
        split
        · rename_i e0 sz xs _
          simp only [St.put]
          rw [okPut_vw hy]
          by_cases hok : okPut env v = true
          · rw [if_pos hok, if_pos hok]
            simp only [Option.bind_some]
            obtain ⟨U, hU⟩ := wr_heap (H := H) (id := id) (off := off) (vs := [.list (some e0) sz xs])
            rw [hU, hU]
            cases U with
            | none => exact par_none
            | some H' =>
              have := par_put (H := H') (k := kls (.on 4 (.stt y v))) (y := .list none sz xs) hy (st_mem (o := .on 4 (.stt y v)) (by simp [stT]))
              simp only [St.put] at this
              rw [okPut_vw hy, if_pos hok, if_pos hok] at this
              exact this
          · rw [if_neg hok, if_neg hok]; exact par_none
        · exact par_none
      · rw [e1, e2]; exact par_none
  · rw [on_neg (s := ⟨env, H⟩) hm, on_neg (s := ⟨env2, H⟩) (by simp only [hkd]; exact hm)]
    exact par_none
theorem onV_vw {m off : Nat} {y : Opd} {nc : Bool} (h : ∀ t ∈ opT y, vw env2 t = vw env t) : onV gl env2 m y off nc = onV gl env m y off nc := by
  simp only [onV, adrKind_vw h, adr_vw h]
theorem on_fa_par {m d off : Nat} {y : Opd} (hm : m = 3 ∨ m = 4) (h : Alike (.on m (.fa d y off)) env env2) :
    Par (wrT (.on m (.fa d y off))) (kls (.on m (.fa d y off))) env env2 (ev gl ⟨env, H⟩ (.on m (.fa d y off))) (ev gl ⟨env2, H⟩ (.on m (.fa d y off))) := by
  rw [on_fa hm, on_fa hm, onV_vw fun t ht => h.rd t (by simpa [rdT] using ht)]
  exact par_bind fun v => par_put (h.wr d (dst_mem rfl)) (dst_mem rfl)
theorem on_nc_par {m d : Nat} {y : Opd} (hm : m = 3 ∨ m = 4) (h : Alike (.on m (.nilchk d y)) env env2) :
    Par (wrT (.on m (.nilchk d y))) (kls (.on m (.nilchk d y))) env env2 (ev gl ⟨env, H⟩ (.on m (.nilchk d y))) (ev gl ⟨env2, H⟩ (.on m (.nilchk d y))) := by
  rw [on_nc hm, on_nc hm, onV_vw fun t ht => h.rd t (by simpa [rdT] using ht)]
  exact par_bind fun v => par_put (h.wr d (dst_mem rfl)) (dst_mem rfl)
theorem on34 {m : Nat} (h : ¬ (if m = 3 ∨ m = 4 then 0 else 9) = 9) : m = 3 ∨ m = 4 := by
  split at h
  · assumption
  · exact absurd rfl h
theorem ev_par' {o : SOp} (hk : kls o ≠ 3 ∧ kls o ≠ 6 ∧ kls o ≠ 9) (h : Alike o env env2) : Par (wrT o) (kls o) env env2 (ev gl ⟨env, H⟩ o) (ev gl ⟨env2, H⟩ o) := by
  by_cases hon : ∃ m o', o = .on m o'
  · obtain ⟨m, o', rfl⟩ := hon
    cases o'
    case ld d y n ag => exact on_ld_par hk.2.2 h
    case fa d y off => exact on_fa_par (on34 hk.2.2) h
    case nilchk d y => exact on_nc_par (on34 hk.2.2) h
    case ldt d y e sz =>
      refine on_hp_par (.inl ⟨_, _, _, _, rfl⟩) ?_ h
      simp only [kls] at hk ⊢
      split at hk
      · rename_i hm; rw [if_pos hm]
      · split at hk <;> simp at hk
    case st n y v =>
      refine on_hp_par (.inr (.inl ⟨_, _, _, rfl⟩)) ?_ h
      simp only [kls] at hk ⊢
      split at hk
      · rename_i hm; rw [if_pos hm]
      · split at hk <;> simp at hk
    case stt y v =>
      refine on_hp_par (.inr (.inr ⟨_, _, rfl⟩)) ?_ h
      simp only [kls] at hk ⊢
      split at hk
      · rename_i hm; rw [if_pos hm]
      · split at hk <;> simp at hk
    all_goals simp [kls] at hk
  · exact ev_par hk (fun m o' e => hon ⟨m, o', e⟩) h
end
end AM
/-! Operations that do not meet may be exchanged. -/
namespace AM
open Go
section
variable {P : Program} {gl : Glob} {D : Dets} {env env2 : Env} {H H' : List AObj}

/-- What an operation does, pure calls included. -/
def evD (gl : Glob) (D : Dets) (s : St) : SOp → Option St
  | .callP d f xs => (evOs gl s.env xs).bind fun vs => if (vs.map AV.noOwn).all AV.arg = true then (D f (vs.map AV.noOwn)).bind fun r => s.putO d r else none
  | o => ev gl s o
def sideD (P : Program) (gl : Glob) (D : Dets) (env : Env) : SOp → Prop
  | .callP _ f xs => ∀ vs r, evOs gl env xs = some vs → D f (vs.map AV.noOwn) = some r → Det P gl f (vs.map AV.noOwn) r
  | _ => True
def isH0 (k : Nat) : Bool := k == 0 || k == 1 || k == 2 || k == 3 || k == 7
def isX0 (k : Nat) : Bool := k == 0 || k == 1 || k == 2 || k == 4 || k == 5 || k == 6 || k == 7
theorem opX_ev {s : St} {K : St → Prop} {o : SOp} (hk : (match o with | .callP _ _ _ | .callI _ _ _ | .callV _ _ _ | .callG _ _ _ _ | .callR _ _ _ | .nxt _ _ => false | _ => true) = true) :
    opX P gl D s K o ↔ ∃ s1, ev gl s o = some s1 ∧ K s1 := by
  have hgen : (match ev gl s o with | some s' => K s' | none => False) ↔ ∃ s1, ev gl s o = some s1 ∧ K s1 := by
    cases ev gl s o with
    | none => simp
    | some s1 => simp
  cases o <;> first | exact hgen | simp at hk
theorem opX_h0 {s : St} {K : St → Prop} {o : SOp} (hk : isH0 (kls o) = true ∨ kls o = 5) : opX P gl D s K o ↔ sideD P gl D s.env o ∧ ∃ s1, evD gl D s o = some s1 ∧ K s1 := by
  by_cases hc : ∃ d f xs, o = .callP d f xs
  · obtain ⟨d, f, xs, rfl⟩ := hc
    simp only [opX, evD, sideD]
    cases he : evOs gl s.env xs with
    | none => simp
    | some vs =>
      simp only [Option.bind_some]
      by_cases ha : (vs.map AV.noOwn).all AV.arg = true
      · simp only [ha, if_true, true_and]
        cases hD : D f (vs.map AV.noOwn) with
        | none => simp
        | some r =>
          simp only [Option.bind_some]
          cases hp : s.putO d r with
          | none => simp
          | some s1 =>
            simp only
            constructor
            · rintro ⟨h1, h2⟩
              exact ⟨fun vs' r' h3 h4 => by simp at h3; subst h3; rw [hD] at h4; simp at h4; subst h4; exact h1, s1, rfl, h2⟩
            · rintro ⟨h1, s2, h2, h3⟩
              simp at h2; subst h2
              exact ⟨h1 vs r rfl hD, h3⟩
      · simp [ha]
  · have h1 : evD gl D s o = ev gl s o := by cases o <;> first | rfl | exact absurd ⟨_, _, _, rfl⟩ hc
    have h2 : sideD P gl D s.env o ↔ True := by cases o <;> first | exact Iff.rfl | exact absurd ⟨_, _, _, rfl⟩ hc
    rw [h1, h2, true_and]
    refine opX_ev ?_
    cases o <;> first | rfl | exact absurd ⟨_, _, _, rfl⟩ hc | (simp [isH0, kls] at hk)

/-- In a frame. -/
theorem evD_fr {d : Nat} {x : Ent} {o : SOp} (hs : env.Sorted) (hk : isH0 (kls o) = true) (hr : d ∉ rdT o) (hw : d ∉ wrT o)
    (h2 : kls o = 2 → x.isA = false ∧ ∀ u off, env.get d ≠ some (.a u off)) (h3 : kls o = 3 ∨ kls o = 7 → x.isB = false ∧ ∀ cs, env.get d ≠ some (.b cs)) :
    evD gl D ⟨env.ins d x, H'⟩ o = (evD gl D ⟨env, H⟩ o).map (fr d x H') := by
  by_cases hc : ∃ dd f xs, o = .callP dd f xs
  · obtain ⟨dd, f, xs, rfl⟩ := hc
    simp only [evD]
    rw [evOs_ins (by simpa [rdT] using hr)]
    refine bind_fr fun vs => ?_
    split
    · exact bind_fr fun r => putO_fr fun u hu => dst_ne hw (by simpa [dstOf] using hu)
    · rfl
  · have h1 : ∀ s, evD gl D s o = ev gl s o := fun s => by cases o <;> first | rfl | exact absurd ⟨_, _, _, rfl⟩ hc
    rw [h1, h1]
    by_cases hon : ∃ m o', o = .on m o'
    · obtain ⟨m, o', rfl⟩ := hon
      cases o'
      case ld d2 y n ag =>
        have hd2 : d2 ≠ d := dst_ne hw rfl
        have hry : d ∉ opT y := by simpa [rdT] using hr
        refine ld_fr ?_ hry hd2
        simp only [kls] at hk h3
        split at hk
        · left; assumption
        · split at hk
          · simp [isH0] at hk
          · split at hk
            · rename_i h4 h5 h6
              right
              refine ⟨h6, h3 ?_⟩
              simp [h4, h5, h6]
            · simp [isH0] at hk
      case fa d2 y off => exact fa_fr (on34 fun e => by simp only [kls] at hk; rw [e] at hk; simp [isH0] at hk) (by simpa [rdT] using hr) (dst_ne hw rfl)
      case nilchk d2 y => exact nc_fr (on34 fun e => by simp only [kls] at hk; rw [e] at hk; simp [isH0] at hk) (by simpa [rdT] using hr) (dst_ne hw rfl)
      case ldt d2 y e sz =>
        have hm : m ≠ 4 ∧ (m = 1 ∨ m = 2) := by
          simp only [kls] at hk
          split at hk
          · simp [isH0] at hk
          · split at hk
            · exact ⟨by assumption, by assumption⟩
            · simp [isH0] at hk
        obtain ⟨q1, q2⟩ := h3 (.inl (by simp [kls, hm.1, hm.2]))
        exact bx_ldt hm.2 q1 q2 (by simpa [rdT] using hr) (dst_ne hw rfl)
      case st n y v =>
        have hm : m ≠ 4 ∧ (m = 1 ∨ m = 2) := by
          simp only [kls] at hk
          split at hk
          · simp [isH0] at hk
          · split at hk
            · exact ⟨by assumption, by assumption⟩
            · simp [isH0] at hk
        obtain ⟨q1, q2⟩ := h3 (.inl (by simp [kls, hm.1, hm.2]))
        simp only [rdT, List.mem_append, not_or] at hr
        exact bx_st hm.2 q1 q2 hr.1 hr.2
      case stt y v =>
        have hm : m ≠ 4 ∧ (m = 1 ∨ m = 2) := by
          simp only [kls] at hk
          split at hk
          · simp [isH0] at hk
          · split at hk
            · exact ⟨by assumption, by assumption⟩
            · simp [isH0] at hk
        obtain ⟨q1, q2⟩ := h3 (.inl (by simp [kls, hm.1, hm.2]))
        simp only [rdT, List.mem_cons, not_or] at hr
        exact bx_stt hm.2 q1 q2 hr.2 (fun e => hr.1 e.symm)
      all_goals simp [kls, isH0] at hk
    · by_cases hb : (∃ d2 z, o = .alloc d2 z) ∨ ∃ d2 y, o = .box d2 y
      · have key : ∀ (d2 : Nat) (cs : List AV), d2 ≠ d → x.isA = false → (∀ u off, env.get d ≠ some (.a u off)) → (⟨env.ins d x, H'⟩ : St).putB d2 cs = ((⟨env, H⟩ : St).putB d2 cs).map (fr d x H') := by
          intro d2 cs hne hx ho
          have hA : isA (env.ins d x) d2 = isA env d2 := by simp only [isA, get_ins_ne hne]
          simp only [St.putB, hasA_ins hx ho hs, hA]
          split
          · rfl
          · exact ins_fr hne
        rcases hb with ⟨d2, z, rfl⟩ | ⟨d2, y, rfl⟩
        · obtain ⟨q1, q2⟩ := h2 rfl
          exact key d2 z (dst_ne hw rfl) q1 q2
        · obtain ⟨q1, q2⟩ := h2 rfl
          simp only [ev]
          rw [evO_ins (by simpa [rdT] using hr)]
          refine bind_fr fun v => ?_
          split
          · exact key d2 _ (dst_ne hw rfl) q1 q2
          · rfl
      · refine ev_fr ?_ (fun m o' e => hon ⟨m, o', e⟩) hr hw
        cases o <;> first | (simp [kls]; done) | exact absurd ⟨_, _, rfl⟩ hon | exact absurd (.inl ⟨_, _, rfl⟩) hb | exact absurd (.inr ⟨_, _, rfl⟩) hb | (simp [kls, isH0] at hk; done) | skip
        all_goals (simp only [kls] at hk ⊢; split at hk <;> simp_all [isH0])
end
end AM
/-! Operations over temporaries leave the heap. -/
namespace AM
open Go
section
variable {P : Program} {gl : Glob} {D : Dets} {env env2 : Env} {H H' : List AObj}
def hpS (H : List AObj) (s : St) : St := ⟨s.env, H⟩
theorem put_hp {t : Nat} {y : AV} : (⟨env, H'⟩ : St).put t y = ((⟨env, H⟩ : St).put t y).map (hpS H') := by
  simp only [St.put]; split <;> rfl
theorem put_hp' {s : St} {t : Nat} {y : AV} : (hpS H' s).put t y = (s.put t y).map (hpS H') := put_hp (H := s.heap)
theorem putB_hp {t : Nat} {y : List AV} : (⟨env, H'⟩ : St).putB t y = ((⟨env, H⟩ : St).putB t y).map (hpS H') := by
  simp only [St.putB]; split <;> rfl
theorem putO_hp {t : Option Nat} {y : AV} : (⟨env, H'⟩ : St).putO t y = ((⟨env, H⟩ : St).putO t y).map (hpS H') := by
  cases t with
  | none => rfl
  | some t => exact put_hp
theorem put2_hp {t u : Nat} {y z : AV} : ((⟨env, H'⟩ : St).put t y).bind (fun s => s.put u z) = (((⟨env, H⟩ : St).put t y).bind fun s => s.put u z).map (hpS H') := by
  rw [put_hp (H := H)]
  cases (⟨env, H⟩ : St).put t y with
  | none => rfl
  | some s => exact put_hp'
theorem bind_hp {α : Type} {o : Option α} {f f' : α → Option St} (h : ∀ a, f' a = (f a).map (hpS H')) : o.bind f' = (o.bind f).map (hpS H') := by
  cases o with
  | none => rfl
  | some a => exact h a
theorem ite_hp {c : Prop} [Decidable c] {e : Env} : (if c then some (⟨e, H'⟩ : St) else none) = (if c then some (⟨e, H⟩ : St) else none).map (hpS H') := by split <;> rfl
theorem ev_hp {o : SOp} (hk : kls o = 0 ∨ kls o = 1 ∨ kls o = 2) (hon : ∀ m o', o ≠ .on m o') : ev gl ⟨env, H'⟩ o = (ev gl ⟨env, H⟩ o).map (hpS H') := by
  cases o <;> simp only [kls, reduceCtorEq, or_self, Nat.reduceEqDiff] at hk
  case on m o' => exact absurd rfl (hon m o')
  case callP => rfl
  case len d2 m y =>
    have hm : m ≠ 2 := by rintro rfl; simp at hk
    simp only [ev, hm, if_false]
    repeat' (first | exact put_hp | rfl | split)
  case iaa d2 y n sz i =>
    simp only [ev]
    split
    · exact ite_hp
    · split
      · exact put_hp
      · rfl
    · split
      · exact put_hp
      · rfl
    · rfl
  case nilchk d2 y =>
    cases y with
    | t n =>
      simp only [ev]
      split
      · exact ite_hp
      · exact ite_hp
      · exact put_hp
      · exact put_hp
      · rfl
    | _ => rfl
  case fa d2 y off =>
    simp only [ev]
    split
    · exact ite_hp
    · exact put_hp
    · split
      · exact put_hp
      · rfl
    · rfl
  all_goals
    simp only [ev]
    repeat' (first | exact put_hp | exact putB_hp | exact put2_hp | rfl | (refine bind_hp fun _ => ?_) | split)
theorem rd_hp {n : Nat} {p : Adr} (h : ∀ id off, p ≠ .hp id off) : rdAt ⟨env, H'⟩ n p = rdAt ⟨env, H⟩ n p := by
  cases p with
  | bx t off => rfl
  | hp id off => exact absurd rfl (h id off)
  | im cs => rfl
theorem wr_hp {t off : Nat} {vs : List AV} : wrAt ⟨env, H'⟩ vs (.bx t off) = (wrAt ⟨env, H⟩ vs (.bx t off)).map (hpS H') := by
  simp only [wrAt]
  split
  · split <;> rfl
  · rfl
theorem on_hp {m : Nat} {o : SOp} (hk : isH0 (kls (.on m o)) = true) : ev gl ⟨env, H'⟩ (.on m o) = (ev gl ⟨env, H⟩ (.on m o)).map (hpS H') := by
  have h34 : ¬ (if m = 3 ∨ m = 4 then 0 else 9) = 9 ∨ isH0 (if m = 3 ∨ m = 4 then 0 else 9) = false := by
    split
    · left; simp
    · right; rfl
  by_cases hfa : (∃ d y off, o = .fa d y off) ∨ ∃ d y, o = .nilchk d y
  · rcases hfa with ⟨d, y, off, rfl⟩ | ⟨d, y, rfl⟩
    · have hm := on34 (h34.resolve_right fun e => by simp only [kls, e] at hk; cases hk)
      rw [on_fa hm, on_fa hm]
      exact bind_hp fun v => put_hp
    · have hm := on34 (h34.resolve_right fun e => by simp only [kls, e] at hk; cases hk)
      rw [on_nc hm, on_nc hm]
      exact bind_hp fun v => put_hp
  by_cases hm : adrKind env (adrOf o) = m
  · rw [on_pos (s := ⟨env, H'⟩) hm, on_pos (s := ⟨env, H⟩) hm]
    cases o
    case fa d y off => exact absurd (.inl ⟨_, _, _, rfl⟩) hfa
    case nilchk d y => exact absurd (.inr ⟨_, _, rfl⟩) hfa
    case ld d2 y n ag =>
      simp only [ev]
      have key : ∀ p, adr gl env y = some p → ∀ id off, p ≠ .hp id off := by
        intro p hp id off e
        subst e
        simp only [kls] at hk
        have h4 : m = 4 := by
          rw [← hm]
          simp only [adrOf]
          cases y <;> simp only [adr, reduceCtorEq] at hp
          · simp only [adrKind]; split at hp <;> simp_all
          · split at hp <;> simp at hp
        subst h4
        simp [isH0] at hk
      cases hp : adr gl env y with
      | none => rfl
      | some p =>
        simp only [Option.bind_some, rd_hp (H := H) (H' := H') (key p hp)]
        refine bind_hp fun cs => ?_
        split
        · exact put_hp
        · split
          · exact put_hp
          · rfl
    case ldt d2 y e sz =>
      have h12 : m = 1 ∨ m = 2 := by
        simp only [kls] at hk
        split at hk
        · simp [isH0] at hk
        · split at hk
          · assumption
          · simp [isH0] at hk
      obtain ⟨t, off, h⟩ := adr_box (gl := gl) (env := env) (y := y) (by simp only [adrOf] at hm; rw [hm]; exact h12)
      simp only [ev, h, Option.bind_some]
      rw [rd_hp (H := H) (H' := H') (p := .bx t off) (by simp)]
      refine bind_hp fun cs => ?_
      split
      · rw [wr_hp (H := H)]
        cases wrAt ⟨env, H⟩ _ (.bx t off) with
        | none => rfl
        | some s => exact put_hp'
      · exact put_hp
      · rfl
    case st n y v =>
      have h12 : m = 1 ∨ m = 2 := by
        simp only [kls] at hk
        split at hk
        · simp [isH0] at hk
        · split at hk
          · assumption
          · simp [isH0] at hk
      obtain ⟨t, off, h⟩ := adr_box (gl := gl) (env := env) (y := y) (by simp only [adrOf] at hm; rw [hm]; exact h12)
      simp only [ev, h, Option.bind_some]
      refine bind_hp fun u => ?_
      split
      · exact wr_hp
      · rfl
    case stt y v =>
      have h12 : m = 1 ∨ m = 2 := by
        simp only [kls] at hk
        split at hk
        · simp [isH0] at hk
        · split at hk
          · assumption
          · simp [isH0] at hk
      obtain ⟨t, off, h⟩ := adr_box (gl := gl) (env := env) (y := y) (by simp only [adrOf] at hm; rw [hm]; exact h12)
      simp only [ev, h, Option.bind_some]
      split
      · rw [put_hp (H := H)]
        cases (⟨env, H⟩ : St).put v _ with
        | none => rfl
        | some s => exact wr_hp (H := s.heap)
      · rfl
    all_goals simp [kls, isH0] at hk
  · rw [on_neg (s := ⟨env, H'⟩) hm, on_neg (s := ⟨env, H⟩) hm]; rfl
theorem evD_hp {o : SOp} (hk : isH0 (kls o) = true) : evD gl D ⟨env, H'⟩ o = (evD gl D ⟨env, H⟩ o).map (hpS H') := by
  by_cases hc : ∃ dd f xs, o = .callP dd f xs
  · obtain ⟨dd, f, xs, rfl⟩ := hc
    simp only [evD]
    refine bind_hp fun vs => ?_
    split
    · exact bind_hp fun r => putO_hp
    · rfl
  · have h1 : ∀ s, evD gl D s o = ev gl s o := fun s => by cases o <;> first | rfl | exact absurd ⟨_, _, _, rfl⟩ hc
    rw [h1, h1]
    by_cases hon : ∃ m o', o = .on m o'
    · obtain ⟨m, o', rfl⟩ := hon
      exact on_hp hk
    · refine ev_hp ?_ fun m o' e => hon ⟨m, o', e⟩
      cases o <;> first | (simp [kls]; done) | exact absurd ⟨_, _, rfl⟩ hon | (simp [kls, isH0] at hk; done) | skip
      all_goals (simp only [kls] at hk ⊢; split at hk <;> simp_all [isH0])
theorem evD_heap {s s1 : St} {o : SOp} (hk : isH0 (kls o) = true) (h : evD gl D s o = some s1) : s1.heap = s.heap := by
  have := evD_hp (gl := gl) (D := D) (env := s.env) (H := s.heap) (H' := s.heap) hk
  rw [show (⟨s.env, s.heap⟩ : St) = s from rfl, h] at this
  simp only [Option.map_some, Option.some.injEq] at this
  rw [this]; rfl
end
end AM
/-! Operations that do not meet may be exchanged: the exchange. -/
namespace AM
open Go
section
variable {P : Program} {gl : Glob} {D : Dets} {env env2 : Env} {H H' : List AObj}

def optK (X : Option St) (K : St → Prop) : Prop := match X with | some s' => K s' | none => False
theorem par_K {W : List Nat} {k : Nat} {X Y : Option St} {K K2 : St → Prop} (h : Par W k env env2 X Y) (hK : ∀ us H', UOk W k env us → K ⟨upds env us, H'⟩ → K2 ⟨upds env2 us, H'⟩)
    (hx : optK X K) : optK Y K2 ∧ ∃ us H', UOk W k env us ∧ K ⟨upds env us, H'⟩ := by
  obtain ⟨U, h1, h2, h3⟩ := h
  subst h2 h3
  cases U with
  | none => exact hx.elim
  | some p =>
    obtain ⟨us, H1⟩ := p
    exact ⟨hK us H1 (h1 _ rfl) hx, us, H1, h1 _ rfl, hx⟩
theorem callE_par {W : List Nat} {k : Nat} {f : Nat} {xs : List AV} {X Y : AV → List AObj → Option St} {K K2 : St → Prop} {Z : List AObj → Prop} (h : ∀ r H', Par W k env env2 (X r H') (Y r H')) (hK : ∀ us H', UOk W k env us → K ⟨upds env us, H'⟩ → K2 ⟨upds env2 us, H'⟩)
    (hx : CallE P gl f xs H fun r H' => Z H' ∧ optK (X r H') K) : (CallE P gl f xs H fun r H' => Z H' ∧ optK (Y r H') K2) ∧ ∃ us H', UOk W k env us ∧ K ⟨upds env us, H'⟩ := by
  refine ⟨hx.mono fun r H' hh => ⟨hh.1, (par_K (h r H') hK hh.2).1⟩, ?_⟩
  obtain ⟨r, H', hh⟩ := hx.2
  exact (par_K (h r H') hK hh.2).2
theorem callE_par' {W : List Nat} {k : Nat} {f : Nat} {xs : List AV} {X Y : AV → List AObj → Option St} {K K2 : St → Prop} (h : ∀ r H', Par W k env env2 (X r H') (Y r H')) (hK : ∀ us H', UOk W k env us → K ⟨upds env us, H'⟩ → K2 ⟨upds env2 us, H'⟩)
    (hx : CallE P gl f xs H fun r H' => optK (X r H') K) : (CallE P gl f xs H fun r H' => optK (Y r H') K2) ∧ ∃ us H', UOk W k env us ∧ K ⟨upds env us, H'⟩ := by
  refine ⟨hx.mono fun r H' hh => (par_K (h r H') hK hh).1, ?_⟩
  obtain ⟨r, H', hh⟩ := hx.2
  exact (par_K (h r H') hK hh).2

theorem kls6 {o : SOp} (h : kls o = 6) : ∃ d f xs, o = .callR d f xs := by
  cases o
  case callR d f xs => exact ⟨d, f, xs, rfl⟩
  case len d m y => simp only [kls] at h; split at h <;> cases h
  case on m o' =>
    cases o' <;> simp only [kls] at h
    all_goals first | (cases h; done) | (repeat' (first | (cases h; done) | split at h))
  all_goals cases h
/-- An operation over temporaries that look alike: the same updates; and there are some. -/
theorem opX_par {o : SOp} (hk : isX0 (kls o) = true) (h : Alike o env env2) {K K2 : St → Prop} (hK : ∀ us H', UOk (wrT o) (kls o) env us → K ⟨upds env us, H'⟩ → K2 ⟨upds env2 us, H'⟩)
    (hX : opX P gl D ⟨env, H⟩ K o) : opX P gl D ⟨env2, H⟩ K2 o ∧ ∃ us H', UOk (wrT o) (kls o) env us ∧ K ⟨upds env us, H'⟩ := by
  have hdst : ∀ d, (∀ u, d = some u → dstOf o = some u) → ∀ (r : AV) (H' : List AObj), Par (wrT o) (kls o) env env2 ((⟨env, H'⟩ : St).putO d r) ((⟨env2, H'⟩ : St).putO d r) :=
    fun d hd r H' => par_putO fun u hu => ⟨h.wr u (dst_mem (hd u hu)), dst_mem (hd u hu)⟩
  cases o
  case callP d f xs =>
    have he := evOs_vw (gl := gl) (ys := xs) (env := env) (env2 := env2) fun t ht => h.rd t (by simpa [rdT] using ht)
    simp only [opX] at hX ⊢
    rw [he]
    cases hv : evOs gl env xs with
    | none => rw [hv] at hX; exact hX.elim
    | some vs =>
      rw [hv] at hX
      simp only at hX ⊢
      obtain ⟨h1, h2⟩ := hX
      cases hD : D f (vs.map AV.noOwn) with
      | none => rw [hD] at h2; exact h2.elim
      | some r =>
        rw [hD] at h2
        simp only at h2 ⊢
        obtain ⟨q1, q2⟩ := par_K (hdst d (fun u hu => by simpa [dstOf] using hu) r H) hK h2.2
        exact ⟨⟨h1, h2.1, q1⟩, q2⟩
  case callI d f xs =>
    have he := evOs_vw (gl := gl) (ys := xs) (env := env) (env2 := env2) fun t ht => h.rd t (by simpa [rdT] using ht)
    simp only [opX] at hX ⊢
    rw [he]
    cases hv : evOs gl env xs with
    | none => rw [hv] at hX; exact hX.elim
    | some vs =>
      rw [hv] at hX
      exact callE_par' (hdst d fun u hu => by simpa [dstOf] using hu) hK hX
  case callR d f xs =>
    have he := evOs_vw (gl := gl) (ys := xs) (env := env) (env2 := env2) fun t ht => h.rd t (by simpa [rdT] using ht)
    simp only [opX] at hX ⊢
    rw [he]
    cases hv : evOs gl env xs with
    | none => rw [hv] at hX; exact hX.elim
    | some vs =>
      rw [hv] at hX
      exact callE_par (Z := fun H' => ∃ n, H' = H ++ List.replicate n .dead) (hdst d fun u hu => by simpa [dstOf] using hu) hK hX
  case callV d x xs =>
    have he := evOs_vw (gl := gl) (ys := xs) (env := env) (env2 := env2) fun t ht => h.rd t (by simp [rdT, ht])
    have hx := evO_vw (gl := gl) (y := x) (env := env) (env2 := env2) fun t ht => h.rd t (by simp [rdT, ht])
    simp only [opX] at hX ⊢
    rw [he, hx]
    split at hX
    · exact callE_par' (hdst d fun u hu => by simpa [dstOf] using hu) hK hX
    · exact hX.elim
  case callG d f u xs =>
    have he := evOs_vw (gl := gl) (ys := xs) (env := env) (env2 := env2) fun t ht => h.rd t (by simp [rdT, ht])
    have hu := h.rd u (by simp [rdT])
    simp only [opX] at hX ⊢
    rw [he]
    rcases vw_eq hu with e | ⟨cs, cs', e1, e2⟩
    · rw [e]
      split at hX
      · rename_i e0 sz ys us hg hv
        refine callE_par' (fun r H' => ?_) hK hX
        have hoku : okPut env u = true := by simp [okPut, hg]
        cases d with
        | none =>
          refine ⟨some ([(u, .v (.list none sz ys))], H'), ?_, rfl, rfl⟩
          intro p hp; cases hp
          exact ⟨by simp [wrT, stT, dstOf], by simp [Ent.isB], by simpa using fun _ => hoku, by simp [Ent.isA], .inl (by simp)⟩
        | some d =>
          simp only [St.putO, St.put]
          have hokd : ∀ ev1 : Env, okPut (ev1.ins u (.v (.list none sz ys))) d = if d = u then true else okPut ev1 d := by
            intro ev1
            by_cases e : d = u
            · subst e; simp [okPut, Env.get_ins]
            · simp only [e, if_false]; exact okPut_ins e
          rw [hokd, hokd, okPut_vw (h.wr d (dst_mem rfl))]
          by_cases hok : (if d = u then true else okPut env d) = true
          · rw [if_pos hok, if_pos hok]
            refine ⟨some ([(u, .v (.list none sz ys)), (d, .v r)], H'), ?_, rfl, rfl⟩
            intro p hp; cases hp
            refine ⟨by simp [wrT, stT, dstOf], ?_, ?_, ?_, .inr ?_⟩
            · intro p hp; simp at hp; rcases hp with rfl | rfl <;> simp [Ent.isB]
            · intro p hp _; simp at hp
              rcases hp with rfl | rfl
              · exact hoku
              · by_cases e : d = u
                · subst e; exact hoku
                · simpa [e] using hok
            · intro p hp; simp at hp; rcases hp with rfl | rfl <;> simp [Ent.isA]
            · intro p hp; simp at hp; rcases hp with rfl | rfl <;> simp [Ent.isA, Ent.isB]
          · rw [if_neg hok, if_neg hok]; exact par_none
      · exact callE_par' (hdst d fun u hu => by simpa [dstOf] using hu) hK hX
      · exact hX.elim
    · rw [e1] at hX
      simp only at hX
  case nxt d it =>
    have hi := evO_vw (gl := gl) (y := it) (env := env) (env2 := env2) fun t ht => h.rd t (by simpa [rdT] using ht)
    have hp : ∀ (y : AV) (H' : List AObj), Par (wrT (.nxt d it)) (kls (.nxt d it)) env env2 ((⟨env, H'⟩ : St).put d y) ((⟨env2, H'⟩ : St).put d y) := fun y H' => par_put (h.wr d (dst_mem rfl)) (dst_mem rfl)
    simp only [opX] at hX ⊢
    rw [hi]
    split at hX
    · rename_i id m since seen es _
      cases es with
      | nil => exact par_K (hp _ _) hK hX
      | cons e0 es =>
        simp only at hX ⊢
        exact ⟨fun e he => (par_K (hp _ _) hK (hX e he)).1, (par_K (hp _ _) hK (hX e0 (by simp))).2⟩
    · exact hX.elim
  case bad d => cases hk
  all_goals
    exact par_K (ev_par' ⟨(fun e => by rw [e] at hk; cases hk), (fun e => by obtain ⟨_, _, _, h⟩ := kls6 e; cases h), (fun e => by rw [e] at hk; cases hk)⟩ h) hK hX
end
end AM
/-! Operations that do not meet may be exchanged: the theorem. -/
namespace AM
open Go
/-- No temporary of the one list is in the other one. -/
def disj (a b : List Nat) : Bool := a.all fun t => !b.contains t
theorem disj_spec {a b : List Nat} (h : disj a b = true) {t : Nat} (ha : t ∈ a) : t ∉ b := by
  unfold disj at h
  rw [List.all_eq_true] at h
  have := h t ha
  simpa using this
def badP (i j : Nat) : Bool := (i == 2 && (j == 1 || j == 3 || j == 7)) || (i == 3 && (j == 3 || j == 7))
/-- Classes of operations that may be exchanged. -/
def pairOk (i j : Nat) : Bool := ((isH0 i && isX0 j) || (isH0 j && isX0 i)) && !badP i j && !badP j i
section
variable {P : Program} {gl : Glob} {D : Dets} {env env2 : Env} {H H' : List AObj}

theorem upds_get {us : List (Nat × Ent)} : ∀ {env : Env} {t : Nat}, (∀ p ∈ us, p.1 ≠ t) → (upds env us).get t = env.get t := by
  induction us with
  | nil => intro env t _; rfl
  | cons p us ih =>
    intro env t h
    obtain ⟨u, x⟩ := p
    simp only [upds]
    rw [ih fun p hp => h p (by simp [hp]), get_ins_ne (Ne.symm (h (u, x) (by simp)))]
theorem upds_sorted {us : List (Nat × Ent)} : ∀ {env : Env}, env.Sorted → (upds env us).Sorted := by
  induction us with
  | nil => intro env h; exact h
  | cons p us ih => intro env h; exact ih (Env.Sorted.ins h p.1 p.2)
theorem vw_get {t : Nat} (h : env2.get t = env.get t) : vw env2 t = vw env t := by unfold vw; rw [h]
theorem sideD_ins {d : Nat} {x : Ent} {o : SOp} (hr : d ∉ rdT o) : sideD P gl D (env.ins d x) o ↔ sideD P gl D env o := by
  cases o <;> first | exact Iff.rfl | skip
  case callP d f xs => simp only [sideD, evOs_ins (ys := xs) (by simpa [rdT] using hr)]
/-- In a frame of updates. -/
theorem evD_upds {W : List Nat} {k : Nat} {o : SOp} (hk : isH0 (kls o) = true) (hp : pairOk (kls o) k = true) (hW : ∀ t ∈ W, t ∉ rdT o ∧ t ∉ wrT o) : ∀ (us : List (Nat × Ent)) (env : Env) (H : List AObj), env.Sorted → UOk W k env us →
    evD gl D ⟨upds env us, H'⟩ o = (evD gl D ⟨env, H⟩ o).map (fun s => ⟨upds s.env us, H'⟩) ∧ (sideD P gl D (upds env us) o ↔ sideD P gl D env o)
  | [], env, H, _, _ => by
    refine ⟨?_, Iff.rfl⟩
    exact evD_hp hk
  | (t, x) :: us, env, H, hs, hu => by
    have hm := hu.mem (t, x) (by simp)
    obtain ⟨h1, h2⟩ := hW t hm
    have hA : kls o = 2 → x.isA = false ∧ ∀ u off, env.get t ≠ some (.a u off) := by
      intro h
      rw [h] at hp
      have hk1 : k ≠ 1 := by rintro rfl; simp [pairOk, badP] at hp
      refine ⟨?_, ?_⟩
      · cases hx : x.isA with
        | false => rfl
        | true => exact absurd (hu.adr (t, x) (by simp) hx) hk1
      · intro u off hg
        cases hx : x.isB with
        | false => have := hu.put (t, x) (by simp) hx; simp [okPut, hg] at this
        | true => have := (hu.box (t, x) (by simp) hx).2; simp [isA, hg] at this
    have hB : kls o = 3 ∨ kls o = 7 → x.isB = false ∧ ∀ cs, env.get t ≠ some (.b cs) := by
      intro h
      have hk2 : k ≠ 2 := by rintro rfl; rcases h with h | h <;> (rw [h] at hp; simp [pairOk, badP] at hp)
      have hx : x.isB = false := by
        cases hx : x.isB with
        | false => rfl
        | true => exact absurd (hu.box (t, x) (by simp) hx).1 hk2
      refine ⟨hx, fun cs hg => ?_⟩
      have := hu.put (t, x) (by simp) hx; simp [okPut, hg] at this
    have hu' : UOk W k (env.ins t x) us := by
      rcases hu.one with h | h
      · have : us = [] := by simp at h; exact h
        subst this
        exact ⟨by simp, by simp, by simp, by simp, .inl (by simp)⟩
      · have hx := h (t, x) (by simp)
        have hxv : ∃ y, x = .v y := by
          cases x with
          | v y => exact ⟨y, rfl⟩
          | a u off => simp [Ent.isA] at hx
          | b cs => simp [Ent.isB] at hx
        obtain ⟨y, rfl⟩ := hxv
        refine ⟨fun p hp => hu.mem p (by simp [hp]), fun p hp hb => ?_, fun p hp hb => ?_, fun p hp => hu.adr p (by simp [hp]), .inr fun p hp => h p (by simp [hp])⟩
        · have := (h p (by simp [hp])).2; rw [this] at hb; cases hb
        · by_cases e : p.1 = t
          · rw [e]; simp [okPut, Env.get_ins]
          · rw [okPut_ins e]; exact hu.put p (by simp [hp]) hb
    obtain ⟨i1, i2⟩ := evD_upds hk hp hW us (env.ins t x) H' (Env.Sorted.ins hs t x) hu'
    simp only [upds]
    refine ⟨?_, i2.trans (sideD_ins h1)⟩
    rw [i1, evD_fr (H := H) hs hk h1 h2 hA hB, Option.map_map]
    rfl

/-- What an operation over temporaries leaves. -/
theorem evD_views {o : SOp} {s s1 : St} (hk : isH0 (kls o) = true) (h : evD gl D s o = some s1) : (∀ t, t ∉ wrT o → vw s1.env t = vw s.env t) ∧
    (kls o ≠ 3 → ∃ us, UOk (wrT o) (kls o) s.env us ∧ s1.env = upds s.env us) := by
  have halike : Alike o s.env s.env := ⟨fun _ _ => rfl, fun _ _ => rfl, fun _ _ _ => rfl, fun _ _ _ => Iff.rfl⟩
  by_cases h3 : kls o = 3
  · refine ⟨?_, fun h => absurd h3 h⟩
    -- a write of a box
    obtain ⟨m, o', rfl⟩ : ∃ m o', o = .on m o' := by
      cases o <;> first | exact ⟨_, _, rfl⟩ | (simp [kls] at h3; done) | skip
      all_goals (simp only [kls] at h3; split at h3 <;> cases h3)
    have hm : m = 1 ∨ m = 2 := by
      cases o' <;> simp only [kls] at h3
      all_goals first | (cases h3; done) | skip
      all_goals (split at h3 <;> first | (cases h3; done) | skip)
      all_goals (first | (split at h3 <;> first | (cases h3; done) | assumption | (split at h3 <;> cases h3)) | skip)
    have hev : ev gl s (.on m o') = some s1 := h
    by_cases hk1 : adrKind s.env (adrOf o') = m
    · rw [on_pos hk1] at hev
      have hwr : ∀ (s : St) (t off : Nat) (vs : List AV) (s2 : St), wrAt s vs (.bx t off) = some s2 → ∀ u, vw s2.env u = vw s.env u := by
        intro s t off vs s2 hw u
        simp only [wrAt] at hw
        split at hw
        · rename_i cs hg
          split at hw
          · simp at hw; subst hw
            unfold vw
            simp only [Env.get_ins]
            by_cases e : u = t
            · subst e; simp [hg]
            · simp [e]
          · cases hw
        · cases hw
      have hput : ∀ (s : St) (t : Nat) (y : AV) (s2 : St), s.put t y = some s2 → ∀ u, u ≠ t → vw s2.env u = vw s.env u := by
        intro s t y s2 hp u hu
        simp only [St.put] at hp
        split at hp
        · simp at hp; subst hp; exact vw_get (get_ins_ne hu)
        · cases hp
      obtain ⟨t, off, ha⟩ := adr_box (gl := gl) (env := s.env) (y := adrOf o') (by rw [hk1]; exact hm)
      intro u hu
      cases o' <;> simp only [kls] at h3 <;> simp only [adrOf] at ha
      case ldt d2 y e sz =>
        have hud : u ≠ d2 := fun e => hu (by simp [wrT, dstOf, e])
        simp only [ev, ha, Option.bind_some] at hev
        obtain ⟨cs, _, hev⟩ := bind_some hev
        split at hev
        · obtain ⟨s2, h5, h6⟩ := bind_some hev
          rw [hput _ _ _ _ h6 u hud, hwr _ _ _ _ _ h5 u]
        · exact hput _ _ _ _ hev u hud
        · cases hev
      case st n y v =>
        simp only [ev, ha, Option.bind_some] at hev
        obtain ⟨x, _, hev⟩ := bind_some hev
        split at hev
        · exact hwr _ _ _ _ _ hev u
        · cases hev
      case stt y v =>
        have huv : u ≠ v := fun e => hu (by simp [wrT, dstOf, stT, e])
        simp only [ev, ha, Option.bind_some] at hev
        split at hev
        · obtain ⟨s2, h5, h6⟩ := bind_some hev
          rw [hwr _ _ _ _ _ h6 u, hput _ _ _ _ h5 u huv]
        · cases hev
      all_goals (first | (cases h3; done) | (repeat' (first | (cases h3; done) | split at h3)))
    · rw [on_neg hk1] at hev; cases hev
  · have key : ∃ us, UOk (wrT o) (kls o) s.env us ∧ s1.env = upds s.env us := by
      by_cases hc : ∃ d f xs, o = .callP d f xs
      · obtain ⟨d, f, xs, rfl⟩ := hc
        simp only [evD] at h
        obtain ⟨vs, _, h⟩ := bind_some h
        split at h
        · obtain ⟨r, _, h⟩ := bind_some h
          have := par_putO (W := wrT (.callP d f xs)) (k := 0) (env := s.env) (env2 := s.env) (H := s.heap) (t := d) (y := r) (fun u hu => ⟨rfl, dst_mem (by simpa [dstOf] using hu)⟩)
          obtain ⟨U, h1, h2, _⟩ := this
          rw [show (⟨s.env, s.heap⟩ : St) = s from rfl, h] at h2
          cases U with
          | none => cases h2
          | some p => simp at h2; exact ⟨p.1, h1 p rfl, by rw [h2]; rfl⟩
        · cases h
      · have h1 : evD gl D s o = ev gl s o := by cases o <;> first | rfl | exact absurd ⟨_, _, _, rfl⟩ hc
        rw [h1] at h
        obtain ⟨U, h1, h2, _⟩ := ev_par' (gl := gl) (H := s.heap) ⟨h3, (fun e => by rw [e] at hk; cases hk), (fun e => by rw [e] at hk; cases hk)⟩ halike
        rw [show (⟨s.env, s.heap⟩ : St) = s from rfl, h] at h2
        cases U with
        | none => cases h2
        | some p => simp at h2; exact ⟨p.1, h1 p rfl, by rw [h2]; rfl⟩
    refine ⟨fun t ht => ?_, fun _ => key⟩
    obtain ⟨us, h1, h2⟩ := key
    rw [h2]
    exact vw_get (upds_get fun p hp e => ht (e ▸ h1.mem p hp))
theorem okPut_notB {t : Nat} (h : okPut env t = true) : ∀ cs, env.get t ≠ some (.b cs) := fun cs hg => by simp [okPut, hg] at h
theorem okPut_notA {t : Nat} (h : okPut env t = true) : ∀ u off, env.get t ≠ some (.a u off) := fun u off hg => by simp [okPut, hg] at h
theorem isA_notA {t : Nat} (h : isA env t = false) : ∀ u off, env.get t ≠ some (.a u off) := fun u off hg => by simp [isA, hg] at h
theorem hasA_upds {W : List Nat} {k : Nat} (hk : k ≠ 1) : ∀ (us : List (Nat × Ent)) (env : Env), env.Sorted → UOk W k env us → ∀ t, hasA (upds env us) t = hasA env t
  | [], _, _, _, _ => rfl
  | (u, x) :: us, env, hs, hu, t => by
    have hx : x.isA = false := by
      cases hx : x.isA with
      | false => rfl
      | true => exact absurd (hu.adr (u, x) (by simp) hx) hk
    have ho : ∀ v off, env.get u ≠ some (.a v off) := by
      cases hb : x.isB with
      | false => exact okPut_notA (hu.put (u, x) (by simp) hb)
      | true => exact isA_notA (hu.box (u, x) (by simp) hb).2
    have hu' : UOk W k (env.ins u x) us := by
      rcases hu.one with h | h
      · have : us = [] := by simp at h; exact h
        subst this
        exact ⟨by simp, by simp, by simp, by simp, .inl (by simp)⟩
      · have hx := h (u, x) (by simp)
        have hxv : ∃ y, x = .v y := by
          cases x with
          | v y => exact ⟨y, rfl⟩
          | a u off => simp [Ent.isA] at hx
          | b cs => simp [Ent.isB] at hx
        obtain ⟨y, rfl⟩ := hxv
        refine ⟨fun p hp => hu.mem p (by simp [hp]), fun p hp hb => ?_, fun p hp hb => ?_, fun p hp => hu.adr p (by simp [hp]), .inr fun p hp => h p (by simp [hp])⟩
        · have := (h p (by simp [hp])).2; rw [this] at hb; cases hb
        · by_cases e : p.1 = u
          · rw [e]; simp [okPut, Env.get_ins]
          · rw [okPut_ins e]; exact hu.put p (by simp [hp]) hb
    simp only [upds]
    rw [hasA_upds hk us (env.ins u x) (Env.Sorted.ins hs u x) hu' t, hasA_ins hx ho hs]
theorem box_upds {W : List Nat} {k : Nat} (hk : k ≠ 2) : ∀ (us : List (Nat × Ent)) (env : Env), UOk W k env us → ∀ t cs, (upds env us).get t = some (.b cs) ↔ env.get t = some (.b cs)
  | [], _, _, _, _ => Iff.rfl
  | (u, x) :: us, env, hu, t, cs => by
    have hx : x.isB = false := by
      cases hx : x.isB with
      | false => rfl
      | true => exact absurd (hu.box (u, x) (by simp) hx).1 hk
    have ho := okPut_notB (hu.put (u, x) (by simp) hx)
    have hu' : UOk W k (env.ins u x) us := by
      rcases hu.one with h | h
      · have : us = [] := by simp at h; exact h
        subst this
        exact ⟨by simp, by simp, by simp, by simp, .inl (by simp)⟩
      · have hx := h (u, x) (by simp)
        have hxv : ∃ y, x = .v y := by
          cases x with
          | v y => exact ⟨y, rfl⟩
          | a u off => simp [Ent.isA] at hx
          | b cs => simp [Ent.isB] at hx
        obtain ⟨y, rfl⟩ := hxv
        refine ⟨fun p hp => hu.mem p (by simp [hp]), fun p hp hb => ?_, fun p hp hb => ?_, fun p hp => hu.adr p (by simp [hp]), .inr fun p hp => h p (by simp [hp])⟩
        · have := (h p (by simp [hp])).2; rw [this] at hb; cases hb
        · by_cases e : p.1 = u
          · rw [e]; simp [okPut, Env.get_ins]
          · rw [okPut_ins e]; exact hu.put p (by simp [hp]) hb
    simp only [upds]
    rw [box_upds hk us (env.ins u x) hu' t cs, Env.get_ins]
    by_cases e : t = u
    · subst e
      simp only [if_true, Option.some.injEq]
      constructor
      · rintro rfl; simp [Ent.isB] at hx
      · intro h; exact absurd h (ho cs)
    · simp [e]
/-- The two operations do not meet. -/
structure Apart (a b : SOp) : Prop where
  ab : ∀ t ∈ wrT a, t ∉ rdT b ∧ t ∉ wrT b
  ba : ∀ t ∈ wrT b, t ∉ rdT a ∧ t ∉ wrT a
  ok : pairOk (kls a) (kls b) = true
theorem alike_of {a b : SOp} {s s1 : St} (hs : s.env.Sorted) (ha : isH0 (kls a) = true) (hb : isX0 (kls b) = true) (h : Apart a b) (he : evD gl D s a = some s1) : Alike b s1.env s.env ∧ Alike b s.env s1.env := by
  obtain ⟨v1, v2⟩ := evD_views ha he
  have hv : ∀ t, t ∈ rdT b ∨ t ∈ wrT b → vw s1.env t = vw s.env t := fun t ht => v1 t fun hw => by
    obtain ⟨q1, q2⟩ := h.ab t hw
    rcases ht with ht | ht
    · exact q1 ht
    · exact q2 ht
  have hha : kls b = 2 → ∀ t, hasA s1.env t = hasA s.env t := by
    intro hb2 t
    have hok := h.ok
    rw [hb2] at hok
    have h3 : kls a ≠ 3 := fun e => by rw [e] at hok; simp [pairOk, badP] at hok
    have h1 : kls a ≠ 1 := fun e => by rw [e] at hok; simp [pairOk, badP] at hok
    obtain ⟨us, q1, q2⟩ := v2 h3
    rw [q2]; exact hasA_upds h1 us s.env hs q1 t
  have hbx : kls b = 7 → ∀ t cs, s1.env.get t = some (.b cs) ↔ s.env.get t = some (.b cs) := by
    intro hb7 t cs
    have hok := h.ok
    rw [hb7] at hok
    have h3 : kls a ≠ 3 := fun e => by rw [e] at hok; simp [pairOk, badP] at hok
    have h2 : kls a ≠ 2 := fun e => by rw [e] at hok; simp [pairOk, badP] at hok
    obtain ⟨us, q1, q2⟩ := v2 h3
    rw [q2]; exact box_upds h2 us s.env q1 t cs
  exact ⟨⟨fun t ht => (hv t (.inl ht)).symm, fun t ht => (hv t (.inr ht)).symm, fun e t _ => (hha e t).symm, fun e t cs => hbx e t cs⟩,
    ⟨fun t ht => hv t (.inl ht), fun t ht => hv t (.inr ht), fun e t _ => hha e t, fun e t cs => (hbx e t cs).symm⟩⟩
theorem uok_of {W : List Nat} {k : Nat} {us : List (Nat × Ent)} (h : UOk W k env us) (hv : ∀ t ∈ W, vw env2 t = vw env t) : UOk W k env2 us :=
  ⟨h.mem, fun p hp hb => ⟨(h.box p hp hb).1, by rw [isA_vw (hv _ (h.mem p hp))]; exact (h.box p hp hb).2⟩, fun p hp hb => by rw [okPut_vw (hv _ (h.mem p hp))]; exact h.put p hp hb, h.adr, h.one⟩

/-- The operation over temporaries comes first: it may come second. -/
theorem swapA {a b : SOp} {s : St} {K : St → Prop} (hs : s.env.Sorted) (ha : isH0 (kls a) = true) (hb : isX0 (kls b) = true) (h : Apart a b) (hX : opX P gl D s (fun s1 => opX P gl D s1 K b) a) :
    opX P gl D s (fun s1 => opX P gl D s1 K a) b := by
  obtain ⟨hside, s1, he, hX⟩ := (opX_h0 (.inl ha)).1 hX
  obtain ⟨al1, al2⟩ := alike_of hs ha hb h he
  have hh := evD_heap ha he
  have hX' : opX P gl D ⟨s1.env, s.heap⟩ K b := by rw [← hh]; exact hX
  refine (opX_par (K2 := fun s1 => opX P gl D s1 K a) hb al1 (fun us H' hu hK => ?_) hX').1
  have hu0 := uok_of hu al1.wr
  obtain ⟨q1, q2⟩ := evD_upds (P := P) (gl := gl) (D := D) (H' := H') ha h.ok h.ba us s.env s.heap hs hu0
  refine (opX_h0 (.inl ha)).2 ⟨q2.2 hside, ⟨upds s1.env us, H'⟩, ?_, hK⟩
  rw [q1, show (⟨s.env, s.heap⟩ : St) = s from rfl, he]; rfl
/-- The operation over temporaries comes second: it may come first. -/
theorem swapB {a b : SOp} {s : St} {K : St → Prop} (hs : s.env.Sorted) (ha : isH0 (kls a) = true) (hb : isX0 (kls b) = true) (h : Apart a b) (hX : opX P gl D s (fun s1 => opX P gl D s1 K a) b) :
    opX P gl D s (fun s1 => opX P gl D s1 K b) a := by
  have hself : Alike b s.env s.env := ⟨fun _ _ => rfl, fun _ _ => rfl, fun _ _ _ => rfl, fun _ _ _ => Iff.rfl⟩
  have hX0 : opX P gl D ⟨s.env, s.heap⟩ (fun s1 => opX P gl D s1 K a) b := hX
  obtain ⟨us0, H0, hu0, hK0⟩ := (opX_par (K2 := fun _ => True) hb hself (fun _ _ _ _ => trivial) hX0).2
  obtain ⟨p1, p2⟩ := evD_upds (P := P) (gl := gl) (D := D) (H' := H0) ha h.ok h.ba us0 s.env s.heap hs hu0
  obtain ⟨hside, s2, he2, _⟩ := (opX_h0 (.inl ha)).1 hK0
  rw [p1, show (⟨s.env, s.heap⟩ : St) = s from rfl, Option.map_eq_some_iff] at he2
  obtain ⟨s1, he, _⟩ := he2
  obtain ⟨al1, al2⟩ := alike_of hs ha hb h he
  have hh := evD_heap ha he
  refine (opX_h0 (.inl ha)).2 ⟨p2.1 hside, s1, he, ?_⟩
  have : opX P gl D ⟨s1.env, s.heap⟩ K b := by
    refine (opX_par (K2 := K) hb al2 (fun us H' hu hK => ?_) hX0).1
    obtain ⟨q1, q2⟩ := evD_upds (P := P) (gl := gl) (D := D) (H' := H') ha h.ok h.ba us s.env s.heap hs hu
    obtain ⟨_, s3, he3, hK3⟩ := (opX_h0 (.inl ha)).1 hK
    rw [q1, show (⟨s.env, s.heap⟩ : St) = s from rfl, he] at he3
    simp at he3
    rw [he3]; exact hK3
  rw [← hh] at this; exact this
theorem Apart.symm {a b : SOp} (h : Apart a b) : Apart b a := ⟨h.ba, h.ab, by
  have := h.ok
  unfold pairOk at this ⊢
  simp only [Bool.and_eq_true, Bool.or_eq_true] at this ⊢
  exact ⟨⟨this.1.1.symm, this.2⟩, this.1.2⟩⟩
theorem swap {a b : SOp} {s : St} {K : St → Prop} (hs : s.env.Sorted) (h : Apart a b) (hX : opX P gl D s (fun s1 => opX P gl D s1 K b) a) : opX P gl D s (fun s1 => opX P gl D s1 K a) b := by
  have hok := h.ok
  simp only [pairOk, Bool.and_eq_true, Bool.or_eq_true] at hok
  rcases hok.1.1 with ⟨h1, h2⟩ | ⟨h1, h2⟩
  · exact swapA hs h1 h2 h hX
  · exact swapB hs h1 h2 h.symm hX
end
end AM
/-! Operations that only read the heap may be exchanged; guards. -/
namespace AM
open Go
section
variable {P : Program} {gl : Glob} {D : Dets} {env env2 : Env} {H H' : List AObj}

theorem upds_comm : ∀ (us vs : List (Nat × Ent)) (env : Env), (∀ p ∈ us, ∀ q ∈ vs, p.1 ≠ q.1) → upds (upds env us) vs = upds (upds env vs) us := by
  have one : ∀ (vs : List (Nat × Ent)) (env : Env) (t : Nat) (x : Ent), (∀ q ∈ vs, t ≠ q.1) → upds (env.ins t x) vs = (upds env vs).ins t x := by
    intro vs
    induction vs with
    | nil => intro env t x _; rfl
    | cons q vs ih =>
      intro env t x h
      obtain ⟨u, y⟩ := q
      simp only [upds]
      rw [← ih (env.ins u y) t x fun q hq => h q (by simp [hq]), Env.ins_comm _ _ _ (h (u, y) (by simp))]
  intro us
  induction us with
  | nil => intro vs env _; rfl
  | cons p us ih =>
    intro vs env h
    obtain ⟨t, x⟩ := p
    simp only [upds]
    rw [ih vs (env.ins t x) fun p hp => h p (by simp [hp]), one vs env t x fun q hq => h (t, x) (by simp) q hq]
theorem dead_get {n id : Nat} : (H ++ List.replicate n .dead)[id]? = H[id]? ∨ (H[id]? = none ∧ (H ++ List.replicate n .dead)[id]? = some .dead) := by
  by_cases h : id < H.length
  · left; rw [List.getElem?_append_left h]
  · rw [List.getElem?_append_right (by omega), List.getElem?_eq_none (show H.length ≤ id by omega)]
    by_cases h2 : id - H.length < n
    · right; simp [h2]
    · left; simp [h2]
theorem rd_dead {n m : Nat} {p : Adr} : rdAt ⟨env, H ++ List.replicate n .dead⟩ m p = rdAt ⟨env, H⟩ m p := by
  cases p with
  | bx t off => rfl
  | im cs => rfl
  | hp id off =>
    simp only [rdAt]
    rcases dead_get (H := H) (n := n) (id := id) with h | ⟨h1, h2⟩
    · rw [h]
    · rw [h1, h2]
theorem kls5 {o : SOp} (h : kls o = 5) : (∃ d y, o = .len d 2 y) ∨ (∃ ks d m k z ok, o = .look ks d m k z ok) ∨ (∃ d it, o = .entr d it) ∨ ∃ d y n ag, o = .on 4 (.ld d y n ag) := by
  cases o
  case len d m y =>
    simp only [kls] at h
    split at h
    · rename_i hm; subst hm; exact .inl ⟨_, _, rfl⟩
    · cases h
  case look => exact .inr (.inl ⟨_, _, _, _, _, _, rfl⟩)
  case entr => exact .inr (.inr (.inl ⟨_, _, rfl⟩))
  case on m o' =>
    cases o' <;> simp only [kls] at h
    case ld d y n ag =>
      split at h
      · cases h
      · split at h
        · rename_i hm; subst hm; exact .inr (.inr (.inr ⟨_, _, _, _, rfl⟩))
        · split at h <;> cases h
    all_goals first | (cases h; done) | (repeat' (first | (cases h; done) | split at h))
  all_goals cases h
/-- Dead objects are not read. -/
theorem ro_dead {n : Nat} {o : SOp} (hk : kls o = 5) : ev gl ⟨env, H ++ List.replicate n .dead⟩ o = (ev gl ⟨env, H⟩ o).map (hpS (H ++ List.replicate n .dead)) := by
  rcases kls5 hk with ⟨d, y, rfl⟩ | ⟨ks, d, m, k, z, ok, rfl⟩ | ⟨d, it, rfl⟩ | ⟨d, y, k, ag, rfl⟩
  · simp only [ev]
    split
    · split
      · exact put_hp
      · rfl
    · split
      · exact put_hp
      · rfl
    · split
      · exact put_hp
      · rfl
    · split
      · exact put_hp
      · rfl
    · split
      · exact put_hp
      · rfl
    · rename_i id _
      simp only [if_true]
      rcases dead_get (H := H) (n := n) (id := id) with h | ⟨h1, h2⟩
      · rw [h]
        split
        · exact put_hp
        · rfl
      · rw [h1, h2]; rfl
    · rfl
  · simp only [ev]
    split
    · rename_i id kk _ _
      rcases dead_get (H := H) (n := n) (id := id) with h | ⟨h1, h2⟩
      · rw [h]
        repeat' (first | exact put_hp | rfl | split)
      · rw [h1, h2]; rfl
    · repeat' (first | exact put_hp | rfl | split)
    · rfl
  · simp only [ev]
    split
    · rename_i id _
      rcases dead_get (H := H) (n := n) (id := id) with h | ⟨h1, h2⟩
      · rw [h]
        split
        · rename_i mid since seen _
          rcases dead_get (H := H) (n := n) (id := mid) with h' | ⟨h3, h4⟩
          · rw [h']
            split
            · split
              · exact bind_hp fun v => put_hp
              · rfl
            · rfl
          · rw [h3, h4]; rfl
        · rfl
      · rw [h1, h2]; rfl
    · rfl
  · by_cases hm : adrKind env y = 4
    · rw [on_pos (s := ⟨env, H ++ List.replicate n AObj.dead⟩) (o := .ld d y k ag) hm, on_pos (s := ⟨env, H⟩) (o := .ld d y k ag) hm]
      simp only [ev]
      refine bind_hp fun p => ?_
      rw [rd_dead]
      refine bind_hp fun cs => ?_
      split
      · exact put_hp
      · split
        · exact put_hp
        · rfl
    · rw [on_neg (s := ⟨env, H ++ List.replicate n AObj.dead⟩) (o := .ld d y k ag) hm, on_neg (s := ⟨env, H⟩) (o := .ld d y k ag) hm]; rfl
theorem ro_heap {s s1 : St} {o : SOp} (hk : kls o = 5) (h : ev gl s o = some s1) : s1.heap = s.heap := by
  have := ro_dead (gl := gl) (env := s.env) (H := s.heap) (n := 0) hk
  simp only [List.replicate_zero, List.append_nil] at this
  rw [show (⟨s.env, s.heap⟩ : St) = s from rfl, h] at this
  simp only [Option.map_some, Option.some.injEq] at this
  rw [this]; rfl
theorem ro_ev {o : SOp} (hk : kls o = 5) (s : St) : evD gl D s o = ev gl s o := by
  rcases kls5 hk with ⟨d, y, rfl⟩ | ⟨ks, d, m, k, z, ok, rfl⟩ | ⟨d, it, rfl⟩ | ⟨d, y, k, ag, rfl⟩ <;> rfl
theorem ro_opX {o : SOp} {s : St} {K : St → Prop} (hk : kls o = 5) : opX P gl D s K o ↔ ∃ s1, ev gl s o = some s1 ∧ K s1 := by
  refine opX_ev ?_
  rcases kls5 hk with ⟨d, y, rfl⟩ | ⟨ks, d, m, k, z, ok, rfl⟩ | ⟨d, it, rfl⟩ | ⟨d, y, k, ag, rfl⟩ <;> rfl
/-- What leaves the heap. -/
theorem ro_K {o : SOp} {s : St} {K : St → Prop} (hk : kls o = 5 ∨ kls o = 6) (hX : opX P gl D s K o) : opX P gl D s (fun s' => K s' ∧ ∃ n, s'.heap = s.heap ++ List.replicate n .dead) o := by
  rcases hk with hk | hk
  · obtain ⟨s1, h1, h2⟩ := (ro_opX hk).1 hX
    exact (ro_opX hk).2 ⟨s1, h1, h2, 0, by simp [ro_heap hk h1]⟩
  · obtain ⟨d, f, xs, rfl⟩ := kls6 hk
    simp only [opX] at hX ⊢
    split at hX
    · refine hX.mono fun r H' hh => ⟨hh.1, ?_⟩
      obtain ⟨⟨n, hn⟩, hh⟩ := hh
      cases hp : ({ s with heap := H' } : St).putO d r with
      | none => rw [hp] at hh; exact hh.elim
      | some s' =>
        rw [hp] at hh
        refine ⟨hh, n, ?_⟩
        have : s'.heap = H' := by
          cases d with
          | none => simp [St.putO] at hp; rw [← hp]
          | some d => simp only [St.putO, St.put] at hp; split at hp <;> simp at hp; rw [← hp]
        rw [this, hn]
    · exact hX.elim
/-- What a reading operation does over other temporaries and with dead objects. -/
theorem ro_over {W : List Nat} {k : Nat} {a : SOp} {us : List (Nat × Ent)} {n : Nat} (ha : kls a = 5) (hW : ∀ t ∈ W, t ∉ rdT a ∧ t ∉ wrT a) (hu : UOk W k env us) : ∃ U : Option (List (Nat × Ent)), (∀ ua, U = some ua → ∀ p ∈ ua, p.1 ∈ wrT a) ∧
    ev gl ⟨env, H⟩ a = U.map (fun ua => ⟨upds env ua, H⟩) ∧ ev gl ⟨upds env us, H ++ List.replicate n .dead⟩ a = U.map fun ua => ⟨upds (upds env ua) us, H ++ List.replicate n .dead⟩ := by
  have hne : ∀ t, t ∈ rdT a ∨ t ∈ wrT a → ∀ p ∈ us, p.1 ≠ t := fun t ht p hp e => by
    obtain ⟨q1, q2⟩ := hW _ (hu.mem p hp)
    rw [e] at q1 q2
    rcases ht with ht | ht
    · exact q1 ht
    · exact q2 ht
  have al : Alike a env (upds env us) := ⟨fun t ht => vw_get (upds_get (hne t (.inl ht))), fun t ht => vw_get (upds_get (hne t (.inr ht))), (fun e => by rw [ha] at e; cases e), (fun e => by rw [ha] at e; cases e)⟩
  obtain ⟨V, h1, h2, h3⟩ := ev_par' (gl := gl) (H := H) (by rw [ha]; decide) al
  cases V with
  | none =>
    refine ⟨none, by simp, h2, ?_⟩
    rw [ro_dead ha, h3]; rfl
  | some p =>
    obtain ⟨ua, H1⟩ := p
    have hh : H1 = H := ro_heap ha h2
    subst hh
    refine ⟨some ua, fun ua' e => by cases e; exact (h1 _ rfl).mem, h2, ?_⟩
    rw [ro_dead ha, h3]
    simp only [Option.map_some, appU, hpS]
    rw [upds_comm us ua env]
    intro p hp q hq e
    exact (hW _ (hu.mem p hp)).2 (by rw [e]; exact (h1 _ rfl).mem q hq)
theorem swapR {a b : SOp} {s : St} {K : St → Prop} (ha : kls a = 5) (hb : kls b = 5 ∨ kls b = 6) (hab : ∀ t ∈ wrT a, t ∉ rdT b ∧ t ∉ wrT b) (hba : ∀ t ∈ wrT b, t ∉ rdT a ∧ t ∉ wrT a) :
    opX P gl D s (fun s1 => opX P gl D s1 K b) a ↔ opX P gl D s (fun s1 => opX P gl D s1 K a) b := by
  have hx : isX0 (kls b) = true := by rcases hb with h | h <;> rw [h] <;> rfl
  have hself : Alike b s.env s.env := ⟨fun _ _ => rfl, fun _ _ => rfl, fun _ _ _ => rfl, fun _ _ _ => Iff.rfl⟩
  have hal : ∀ ua : List (Nat × Ent), (∀ p ∈ ua, p.1 ∈ wrT a) → Alike b (upds s.env ua) s.env ∧ Alike b s.env (upds s.env ua) := by
    intro ua hua
    have hg : ∀ t, t ∈ rdT b ∨ t ∈ wrT b → (upds s.env ua).get t = s.env.get t := fun t ht => upds_get fun p hp e => by
      obtain ⟨q1, q2⟩ := hab _ (hua p hp)
      rw [e] at q1 q2
      rcases ht with ht | ht
      · exact q1 ht
      · exact q2 ht
    have h2 : kls b ≠ 2 := by rcases hb with h | h <;> rw [h] <;> decide
    have h7 : kls b ≠ 7 := by rcases hb with h | h <;> rw [h] <;> decide
    exact ⟨⟨fun t ht => (vw_get (hg t (.inl ht))).symm, fun t ht => (vw_get (hg t (.inr ht))).symm, fun e => absurd e h2, fun e => absurd e h7⟩,
      ⟨fun t ht => vw_get (hg t (.inl ht)), fun t ht => vw_get (hg t (.inr ht)), fun e => absurd e h2, fun e => absurd e h7⟩⟩
  constructor
  · intro hX
    obtain ⟨s1, he, hX⟩ := (ro_opX ha).1 hX
    obtain ⟨U, u1, u2, _⟩ := ro_over (gl := gl) (W := []) (k := 0) (env := s.env) (H := s.heap) (us := []) (n := 0) ha (by simp) ⟨by simp, by simp, by simp, by simp, .inl (by simp)⟩
    rw [show (⟨s.env, s.heap⟩ : St) = s from rfl, he] at u2
    cases U with
    | none => cases u2
    | some ua =>
      simp only [Option.map_some, Option.some.injEq] at u2
      subst u2
      have hX := ro_K hb hX
      refine (opX_par (K2 := fun s1 => opX P gl D s1 K a) hx (hal ua (u1 ua rfl)).1 (fun us H' hu hK => ?_) hX).1
      obtain ⟨hK, n, hn⟩ := hK
      simp only at hn
      subst hn
      have hu0 := uok_of hu (hal ua (u1 ua rfl)).1.wr
      obtain ⟨U', _, v2, v3⟩ := ro_over (gl := gl) (H := s.heap) (n := n) ha hba hu0
      rw [show (⟨s.env, s.heap⟩ : St) = s from rfl, he] at v2
      cases U' with
      | none => cases v2
      | some ua' =>
        simp only [Option.map_some, Option.some.injEq, St.mk.injEq, and_true] at v2
        refine (ro_opX ha).2 ⟨_, v3, ?_⟩
        show K ⟨upds (upds s.env ua') us, _⟩
        rw [← v2]; exact hK
  · intro hX
    have hX := ro_K hb hX
    have hX0 : opX P gl D ⟨s.env, s.heap⟩ (fun s' => opX P gl D s' K a ∧ ∃ n, s'.heap = s.heap ++ List.replicate n .dead) b := hX
    obtain ⟨us0, H0, hu0, hK0, n0, hn0⟩ := (opX_par (K2 := fun _ => True) hx hself (fun _ _ _ _ => trivial) hX0).2
    simp only at hn0
    subst hn0
    obtain ⟨s2, he2, _⟩ := (ro_opX ha).1 hK0
    obtain ⟨U, u1, u2, u3⟩ := ro_over (gl := gl) (H := s.heap) (n := n0) ha hba hu0
    rw [he2] at u3
    cases U with
    | none => cases u3
    | some ua =>
      refine (ro_opX ha).2 ⟨_, u2, ?_⟩
      refine (opX_par (K2 := K) hx (hal ua (u1 ua rfl)).2 (fun us H' hu hK => ?_) hX0).1
      obtain ⟨hK, n, hn⟩ := hK
      simp only at hn
      subst hn
      obtain ⟨s3, he3, hK3⟩ := (ro_opX ha).1 hK
      obtain ⟨U', _, v2, v3⟩ := ro_over (gl := gl) (H := s.heap) (n := n) ha hba hu
      rw [he3] at v3
      cases U' with
      | none => cases v3
      | some ua' =>
        rw [u2] at v2
        simp only [Option.map_some, Option.some.injEq, St.mk.injEq, and_true] at v2 v3
        subst v3
        rw [v2]; exact hK3

/-- A read of a cell and a write of a map. -/
theorem rd_mapset {id : Nat} {nn n2 : Nat} {es es2 : List (AV × AV)} (h : H[id]? = some (.map nn es)) {n : Nat} {p : Adr} : rdAt ⟨env, H.set id (.map n2 es2)⟩ n p = rdAt ⟨env, H⟩ n p := by
  cases p with
  | bx t off => rfl
  | im cs => rfl
  | hp i off =>
    simp only [rdAt]
    by_cases e : id = i
    · subst e
      rw [h, List.getElem?_set_self (List.getElem?_eq_some_iff.1 h).1]
    · rw [List.getElem?_set_ne e]
theorem lookT_rd {ks : List Nat} {d : Nat} {m k : Opd} {z : AV} {s s1 : St} (h : ev gl s (.lookT ks d m k z) = some s1) (env : Env) (n : Nat) (p : Adr) : rdAt ⟨env, s1.heap⟩ n p = rdAt ⟨env, s.heap⟩ n p := by
  have hput : ∀ {t : St} {y : AV} {s2 : St}, t.put d y = some s2 → s2.heap = t.heap := by
    intro t y s2 hp
    simp only [St.put] at hp
    split at hp
    · simp at hp; rw [← hp]
    · cases hp
  simp only [ev] at h
  repeat' (first | (cases h; done) | split at h)
  all_goals first
    | (rw [hput h]; done)
    | (rw [hput h]; exact rd_mapset (by assumption))
theorem ld_over {d n : Nat} {y : Opd} {ag : Bool} (h : ∀ n p, rdAt ⟨env, H'⟩ n p = rdAt ⟨env, H⟩ n p) : ev gl ⟨env, H'⟩ (.on 4 (.ld d y n ag)) = (ev gl ⟨env, H⟩ (.on 4 (.ld d y n ag))).map (hpS H') := by
  by_cases hm : adrKind env y = 4
  · rw [on_pos (s := ⟨env, H'⟩) (o := .ld d y n ag) hm, on_pos (s := ⟨env, H⟩) (o := .ld d y n ag) hm]
    simp only [ev]
    refine bind_hp fun p => ?_
    rw [h]
    refine bind_hp fun cs => ?_
    split
    · exact put_hp
    · split
      · exact put_hp
      · rfl
  · rw [on_neg (s := ⟨env, H'⟩) (o := .ld d y n ag) hm, on_neg (s := ⟨env, H⟩) (o := .ld d y n ag) hm]; rfl
theorem ev_swapL {d n : Nat} {y : Opd} {ag : Bool} {ks : List Nat} {d' : Nat} {m k : Opd} {z : AV} {s : St} (hab : ∀ t ∈ wrT (.on 4 (.ld d y n ag)), t ∉ rdT (.lookT ks d' m k z) ∧ t ∉ wrT (.lookT ks d' m k z)) (hba : ∀ t ∈ wrT (.lookT ks d' m k z), t ∉ rdT (.on 4 (.ld d y n ag)) ∧ t ∉ wrT (.on 4 (.ld d y n ag))) :
    ((ev gl s (.on 4 (.ld d y n ag))).bind fun s1 => ev gl s1 (.lookT ks d' m k z)) = (ev gl s (.lookT ks d' m k z)).bind fun s1 => ev gl s1 (.on 4 (.ld d y n ag)) := by
  generalize ha : SOp.on 4 (.ld d y n ag) = a at hab hba ⊢
  generalize hb : SOp.lookT ks d' m k z = b at hab hba ⊢
  have ka : kls a = 5 := by rw [← ha]; rfl
  have kb : kls b = 4 := by rw [← hb]; rfl
  obtain ⟨env, H⟩ := s
  have alA : ∀ us : List (Nat × Ent), (∀ p ∈ us, p.1 ∈ wrT b) → Alike a env (upds env us) := by
    intro us hus
    have hne : ∀ t, t ∈ rdT a ∨ t ∈ wrT a → ∀ p ∈ us, p.1 ≠ t := fun t ht p hp e => by
      obtain ⟨q1, q2⟩ := hba _ (hus p hp)
      rw [e] at q1 q2
      rcases ht with ht | ht
      · exact q1 ht
      · exact q2 ht
    exact ⟨fun t ht => vw_get (upds_get (hne t (.inl ht))), fun t ht => vw_get (upds_get (hne t (.inr ht))), (fun e => by rw [ka] at e; cases e), (fun e => by rw [ka] at e; cases e)⟩
  have alB : ∀ us : List (Nat × Ent), (∀ p ∈ us, p.1 ∈ wrT a) → Alike b env (upds env us) := by
    intro us hus
    have hne : ∀ t, t ∈ rdT b ∨ t ∈ wrT b → ∀ p ∈ us, p.1 ≠ t := fun t ht p hp e => by
      obtain ⟨q1, q2⟩ := hab _ (hus p hp)
      rw [e] at q1 q2
      rcases ht with ht | ht
      · exact q1 ht
      · exact q2 ht
    exact ⟨fun t ht => vw_get (upds_get (hne t (.inl ht))), fun t ht => vw_get (upds_get (hne t (.inr ht))), (fun e => by rw [kb] at e; cases e), (fun e => by rw [kb] at e; cases e)⟩
  have hselfA : Alike a env env := alA [] (by simp)
  have hselfB : Alike b env env := alB [] (by simp)
  obtain ⟨U, u1, u2, _⟩ := ev_par' (gl := gl) (H := H) (by rw [ka]; decide) hselfA
  obtain ⟨V, v1, v2, _⟩ := ev_par' (gl := gl) (H := H) (by rw [kb]; decide) hselfB
  -- a after b
  have hA : ∀ ub H', V = some (ub, H') → ev gl ⟨upds env ub, H'⟩ a = (ev gl ⟨env, H⟩ a).map fun s => ⟨upds s.env ub, H'⟩ := by
    intro ub H' e
    obtain ⟨U', q1, q2, q3⟩ := ev_par' (gl := gl) (H := H) (by rw [ka]; decide) (alA ub (v1 _ e).mem)
    have hrd := fun n p => lookT_rd (gl := gl) (s := ⟨env, H⟩) (s1 := ⟨upds env ub, H'⟩) (by rw [hb, v2, e]; rfl) (upds env ub) n p
    have := ld_over (gl := gl) (d := d) (y := y) (n := n) (ag := ag) (H := H) (H' := H') hrd
    rw [ha] at this
    rw [this, q3, q2]
    cases U' with
    | none => rfl
    | some p =>
      obtain ⟨ua, H1⟩ := p
      simp only [Option.map_some, appU, hpS]
      rw [upds_comm ub ua env]
      intro p hp q hq e
      exact (hba _ ((v1 _ ‹_›).mem p hp)).2 (by rw [e]; exact (q1 _ rfl).mem q hq)
  have hB : ∀ ua H', U = some (ua, H') → H' = H ∧ ev gl ⟨upds env ua, H⟩ b = (ev gl ⟨env, H⟩ b).map fun s => ⟨upds s.env ua, s.heap⟩ := by
    intro ua H' e
    have hh : H' = H := ro_heap (gl := gl) (s := ⟨env, H⟩) (s1 := ⟨upds env ua, H'⟩) ka (by rw [u2, e]; rfl)
    refine ⟨hh, ?_⟩
    obtain ⟨V', q1, q2, q3⟩ := ev_par' (gl := gl) (H := H) (by rw [kb]; decide) (alB ua (u1 _ e).mem)
    rw [q3, q2]
    cases V' with
    | none => rfl
    | some p =>
      obtain ⟨ub, H1⟩ := p
      simp only [Option.map_some, appU]
      rw [upds_comm ua ub env]
      intro p hp q hq e
      exact (hab _ ((u1 _ ‹_›).mem p hp)).2 (by rw [e]; exact (q1 _ rfl).mem q hq)
  cases hU : U with
  | none =>
    rw [u2, hU]
    simp only [Option.map_none, Option.bind_none]
    cases hV : V with
    | none => rw [v2, hV]; rfl
    | some p =>
      obtain ⟨ub, H'⟩ := p
      rw [v2, hV]
      simp only [Option.map_some, Option.bind_some, appU]
      rw [hA ub H' hV, u2, hU]; rfl
  | some p =>
    obtain ⟨ua, H1⟩ := p
    obtain ⟨rfl, hB'⟩ := hB ua H1 hU
    have e1 : ev gl ⟨env, H1⟩ a = some ⟨upds env ua, H1⟩ := by rw [u2, hU]; rfl
    rw [e1]
    simp only [Option.bind_some]
    rw [hB']
    cases hV : V with
    | none => rw [v2, hV]; rfl
    | some p =>
      obtain ⟨ub, H'⟩ := p
      have e2 : ev gl ⟨env, H1⟩ b = some ⟨upds env ub, H'⟩ := by rw [v2, hV]; rfl
      rw [e2]
      simp only [Option.map_some, Option.bind_some]
      rw [hA ub H' hV, e1]
      simp only [Option.map_some, Option.some.injEq, St.mk.injEq, and_true]
      refine (upds_comm _ _ _ fun p hp q hq e => ?_)
      exact (hba _ ((v1 _ hV).mem p hp)).2 (by rw [e]; exact (u1 _ hU).mem q hq)
theorem opX_bind {a b : SOp} {s : St} {K : St → Prop} (ha : ∀ s K, opX P gl D s K a ↔ ∃ s1, ev gl s a = some s1 ∧ K s1) (hb : ∀ s K, opX P gl D s K b ↔ ∃ s1, ev gl s b = some s1 ∧ K s1) :
    opX P gl D s (fun s1 => opX P gl D s1 K b) a ↔ ∃ s2, (ev gl s a).bind (fun s1 => ev gl s1 b) = some s2 ∧ K s2 := by
  rw [ha]
  constructor
  · rintro ⟨s1, h1, h2⟩
    obtain ⟨s2, h3, h4⟩ := (hb _ _).1 h2
    exact ⟨s2, by rw [h1]; exact h3, h4⟩
  · rintro ⟨s2, h1, h2⟩
    obtain ⟨s1, h3, h4⟩ := bind_some h1
    exact ⟨s1, h3, (hb _ _).2 ⟨s2, h4, h2⟩⟩
theorem swapL {d n : Nat} {y : Opd} {ag : Bool} {ks : List Nat} {d' : Nat} {m k : Opd} {z : AV} {s : St} {K : St → Prop} (hab : ∀ t ∈ wrT (.on 4 (.ld d y n ag)), t ∉ rdT (.lookT ks d' m k z) ∧ t ∉ wrT (.lookT ks d' m k z)) (hba : ∀ t ∈ wrT (.lookT ks d' m k z), t ∉ rdT (.on 4 (.ld d y n ag)) ∧ t ∉ wrT (.on 4 (.ld d y n ag))) :
    opX P gl D s (fun s1 => opX P gl D s1 K (.lookT ks d' m k z)) (.on 4 (.ld d y n ag)) ↔ opX P gl D s (fun s1 => opX P gl D s1 K (.on 4 (.ld d y n ag))) (.lookT ks d' m k z) := by
  have ha : ∀ (s : St) K, opX P gl D s K (.on 4 (.ld d y n ag)) ↔ ∃ s1, ev gl s (.on 4 (.ld d y n ag)) = some s1 ∧ K s1 := fun s K => opX_ev rfl
  have hb : ∀ (s : St) K, opX P gl D s K (.lookT ks d' m k z) ↔ ∃ s1, ev gl s (.lookT ks d' m k z) = some s1 ∧ K s1 := fun s K => opX_ev rfl
  rw [opX_bind ha hb, opX_bind hb ha, ev_swapL hab hba]
end
end AM
/-! Regions that draw their order: guarded operations, and their exchange. -/
namespace AM
open Go
section
variable {P : Program} {gl : Glob} {D : Dets} {env env2 : Env} {H H' : List AObj}

theorem wrAt_sorted {s s1 : St} {vs : List AV} {p : Adr} (hs : s.env.Sorted) (h : wrAt s vs p = some s1) : s1.env.Sorted := by
  cases p <;> simp only [wrAt] at h
  · split at h
    · split at h
      · simp at h; subst h; exact Env.Sorted.ins hs _ _
      · cases h
    · cases h
  · split at h
    · split at h
      · simp at h; subst h; exact hs
      · cases h
    · split at h
      · simp at h; subst h; exact hs
      · cases h
    · cases h
  · cases h
theorem put_sorted {s s1 : St} {t : Nat} {y : AV} (hs : s.env.Sorted) (h : s.put t y = some s1) : s1.env.Sorted := by
  simp only [St.put] at h
  split at h
  · simp at h; subst h; exact Env.Sorted.ins hs _ _
  · cases h
/-- Outcomes: sorted, and temporaries that are not written look the same; and there is one. -/
theorem opX_out {o : SOp} {s : St} {K : St → Prop} (hk : kls o ≠ 9) (hs : s.env.Sorted) (hX : opX P gl D s K o) :
    opX P gl D s (fun s' => K s' ∧ s'.env.Sorted ∧ ∀ t, t ∉ wrT o → vw s'.env t = vw s.env t) o ∧ ∃ s', K s' ∧ s'.env.Sorted ∧ ∀ t, t ∉ wrT o → vw s'.env t = vw s.env t := by
  by_cases h3 : kls o = 3
  · have hk0 : isH0 (kls o) = true := by rw [h3]; rfl
    obtain ⟨h1, s1, h2, hK⟩ := (opX_h0 (.inl hk0)).1 hX
    have hv := (evD_views hk0 h2).1
    have hso : s1.env.Sorted := by
      obtain ⟨m, o', rfl⟩ : ∃ m o', o = .on m o' := by
        cases o <;> first | exact ⟨_, _, rfl⟩ | (simp [kls] at h3; done) | skip
        all_goals (simp only [kls] at h3; split at h3 <;> cases h3)
      have hev : ev gl s (.on m o') = some s1 := h2
      simp only [ev] at hev
      split at hev
      · cases o' <;> simp only [kls] at h3
        case ldt d2 y e sz =>
          simp only [ev] at hev
          obtain ⟨p, _, hev⟩ := bind_some hev
          obtain ⟨cs, _, hev⟩ := bind_some hev
          split at hev
          · obtain ⟨s2, h5, h6⟩ := bind_some hev
            exact put_sorted (wrAt_sorted hs h5) h6
          · exact put_sorted hs hev
          · cases hev
        case st n y v =>
          simp only [ev] at hev
          obtain ⟨p, _, hev⟩ := bind_some hev
          obtain ⟨x, _, hev⟩ := bind_some hev
          split at hev
          · exact wrAt_sorted hs hev
          · cases hev
        case stt y v =>
          simp only [ev] at hev
          obtain ⟨p, _, hev⟩ := bind_some hev
          split at hev
          · obtain ⟨s2, h5, h6⟩ := bind_some hev
            exact wrAt_sorted (put_sorted hs h5) h6
          · cases hev
        all_goals (first | (cases h3; done) | (repeat' (first | (cases h3; done) | split at h3)))
      · cases hev
    exact ⟨(opX_h0 (.inl hk0)).2 ⟨h1, s1, h2, hK, hso, hv⟩, s1, hK, hso, hv⟩
  · have hx : isX0 (kls o) = true := by
      have : kls o = 0 ∨ kls o = 1 ∨ kls o = 2 ∨ kls o = 4 ∨ kls o = 5 ∨ kls o = 6 ∨ kls o = 7 := by
        cases o <;> simp only [kls] at hk h3 ⊢ <;> first | (simp; done) | skip
        case len d m y => split <;> simp
        case on m o' =>
          cases o' <;> simp only at hk h3 ⊢ <;> first | (exact absurd rfl hk) | skip
          all_goals
            first
            | (split <;> simp_all; done)
            | (split at hk <;> simp_all; done)
            | (repeat' split) <;> simp_all
        all_goals exact absurd rfl hk
      rcases this with h | h | h | h | h | h | h <;> rw [h] <;> rfl
    have hself : Alike o s.env s.env := ⟨fun _ _ => rfl, fun _ _ => rfl, fun _ _ _ => rfl, fun _ _ _ => Iff.rfl⟩
    have hX0 : opX P gl D ⟨s.env, s.heap⟩ K o := hX
    obtain ⟨q1, us, H', hu, q2⟩ := opX_par (K2 := fun s' => K s' ∧ s'.env.Sorted ∧ ∀ t, t ∉ wrT o → vw s'.env t = vw s.env t) hx hself (fun us H' hu hK =>
      ⟨hK, upds_sorted hs, fun t ht => vw_get (upds_get fun p hp e => ht (e ▸ hu.mem p hp))⟩) hX0
    exact ⟨q1, _, q2, upds_sorted hs, fun t ht => vw_get (upds_get fun p hp e => ht (e ▸ hu.mem p hp))⟩

/-- A guarded operation. -/
def itX (P : Program) (gl : Glob) (D : Dets) (s : St) (K : St → Prop) (it : It) : Prop := match guardV s.env it.g with
  | some true => opX P gl D s K it.o
  | some false => (match dstOf it.o with
    | some d => (match s.put d (.tup []) with | some s' => K s' | none => False)
    | none => K s)
  | none => False
theorem runR_cons {it : It} {r : List It} {s : St} {K : St → Prop} : runR P gl D (it :: r) s K ↔ itX P gl D s (fun s' => runR P gl D r s' K) it := by
  simp only [runR, itX]
  rfl
theorem itX_mono {it : It} {s : St} {K K' : St → Prop} (hk : ∀ s, K s → K' s) (h : itX P gl D s K it) : itX P gl D s K' it := by
  simp only [itX] at h ⊢
  split at h
  · exact opX_mono h hk
  · split at h
    · split at h
      · exact hk _ h
      · exact h
    · exact hk _ h
  · exact h
/-- What a guarded operation comes to. -/
def effO (it : It) : Bool → Option SOp
  | true => some it.o
  | false => (dstOf it.o).map fun d => .mv d (.c (.tup []))
def opX' (P : Program) (gl : Glob) (D : Dets) (s : St) (K : St → Prop) : Option SOp → Prop
  | some o => opX P gl D s K o
  | none => K s
theorem skip_opX {s : St} {d : Nat} {K : St → Prop} : opX P gl D s K (.mv d (.c (.tup []))) ↔ (match s.put d (.tup []) with | some s' => K s' | none => False) := by
  simp only [opX, ev, evO, Option.bind_some, AV.noOwn]
  exact Iff.rfl
theorem itX_eff {it : It} {s : St} {K : St → Prop} {b : Bool} (hg : guardV s.env it.g = some b) : itX P gl D s K it ↔ opX' P gl D s K (effO it b) := by
  simp only [itX, hg]
  cases b with
  | true => exact Iff.rfl
  | false =>
    simp only [effO]
    cases dstOf it.o with
    | none => exact Iff.rfl
    | some d => exact (skip_opX (P := P) (gl := gl) (D := D)).symm
def gT (it : It) : List Nat := match it.g with | some (t, _) => [t] | none => []
theorem guardV_vw {g : Option (Nat × Bool)} (h : ∀ t b, g = some (t, b) → vw env2 t = vw env t) : guardV env2 g = guardV env g := by
  cases g with
  | none => rfl
  | some p =>
    obtain ⟨t, b⟩ := p
    simp only [guardV]
    rcases vw_eq (h t b rfl) with h | ⟨cs, cs', h1, h2⟩
    · rw [h]
    · rw [h1, h2]
def roP (i j : Nat) : Bool := (i == 5 && (j == 5 || j == 6)) || (i == 6 && j == 5)
/-- A read of a cell beside the taking of a list out of a map. -/
def mapP : SOp → SOp → Bool
  | .on 4 (.ld _ _ _ _), .lookT _ _ _ _ _ => true
  | .lookT _ _ _ _ _, .on 4 (.ld _ _ _ _) => true
  | _, _ => false
theorem mapP_spec {a b : SOp} (h : mapP a b = true) : (∃ d y n ag ks d' m k z, a = .on 4 (.ld d y n ag) ∧ b = .lookT ks d' m k z) ∨ ∃ d y n ag ks d' m k z, b = .on 4 (.ld d y n ag) ∧ a = .lookT ks d' m k z := by
  unfold mapP at h
  split at h
  · exact .inl ⟨_, _, _, _, _, _, _, _, _, rfl, rfl⟩
  · exact .inr ⟨_, _, _, _, _, _, _, _, _, rfl, rfl⟩
  · cases h
/-- Two guarded operations may be exchanged. -/
def indep (a b : It) : Bool :=
  disj (wrT a.o) (gT b ++ (rdT b.o ++ wrT b.o)) && disj (wrT b.o) (gT a ++ (rdT a.o ++ wrT a.o)) &&
  (pairOk (kls a.o) (kls b.o) || roP (kls a.o) (kls b.o) || mapP a.o b.o) && pairOk (kls a.o) 0 && pairOk 0 (kls b.o)
theorem effO_spec {it : It} {b : Bool} {o : SOp} (h : effO it b = some o) : (∀ t ∈ wrT o, t ∈ wrT it.o) ∧ (∀ t ∈ rdT o, t ∈ rdT it.o) ∧ (o = it.o ∨ kls o = 0) := by
  cases b with
  | true => simp [effO] at h; subst h; exact ⟨fun _ h => h, fun _ h => h, .inl rfl⟩
  | false =>
    simp only [effO, Option.map_eq_some_iff] at h
    obtain ⟨d, hd, rfl⟩ := h
    refine ⟨fun t ht => ?_, fun t ht => by simp [rdT, opT] at ht, .inr rfl⟩
    simp [wrT, dstOf, stT] at ht
    subst ht
    exact dst_mem hd
theorem opX'_out {e : Option SOp} {s : St} {K : St → Prop} (hk : ∀ o, e = some o → kls o ≠ 9) (hs : s.env.Sorted) (hX : opX' P gl D s K e) :
    opX' P gl D s (fun s' => K s' ∧ s'.env.Sorted ∧ ∀ t, (∀ o, e = some o → t ∉ wrT o) → vw s'.env t = vw s.env t) e ∧ ∃ s', K s' ∧ s'.env.Sorted ∧ ∀ t, (∀ o, e = some o → t ∉ wrT o) → vw s'.env t = vw s.env t := by
  cases e with
  | none => exact ⟨⟨hX, hs, fun _ _ => rfl⟩, s, hX, hs, fun _ _ => rfl⟩
  | some o =>
    obtain ⟨h1, s', h2, h3, h4⟩ := opX_out (hk o rfl) hs hX
    exact ⟨opX_mono h1 fun s' hh => ⟨hh.1, hh.2.1, fun t ht => hh.2.2 t (ht o rfl)⟩, s', h2, h3, fun t ht => h4 t (ht o rfl)⟩
theorem opX'_mono {e : Option SOp} {s : St} {K K' : St → Prop} (h : opX' P gl D s K e) (hk : ∀ s, K s → K' s) : opX' P gl D s K' e := by
  cases e with
  | none => exact hk _ h
  | some o => exact opX_mono h hk
theorem itX_sorted {it : It} {s : St} {K : St → Prop} (hk : kls it.o ≠ 9) (hs : s.env.Sorted) (h : itX P gl D s K it) : itX P gl D s (fun s' => K s' ∧ s'.env.Sorted) it := by
  cases hg : guardV s.env it.g with
  | none => simp only [itX, hg] at h
  | some b =>
    rw [itX_eff hg] at h ⊢
    refine opX'_mono (opX'_out (fun o ho => ?_) hs h).1 fun s' hh => ⟨hh.1, hh.2.1⟩
    rcases (effO_spec ho).2.2 with rfl | h0
    · exact hk
    · rw [h0]; decide
theorem swapIt {a b : It} {s : St} {K : St → Prop} (ha9 : kls a.o ≠ 9) (hb9 : kls b.o ≠ 9) (hs : s.env.Sorted) (h : indep a b = true) (hX : itX P gl D s (fun s1 => itX P gl D s1 K b) a) : itX P gl D s (fun s1 => itX P gl D s1 K a) b := by
  simp only [indep, Bool.and_eq_true] at h
  obtain ⟨⟨⟨⟨d1, d2⟩, hp⟩, hp1⟩, hp2⟩ := h
  cases hga : guardV s.env a.g with
  | none => simp only [itX, hga] at hX
  | some ba =>
    rw [itX_eff hga] at hX
    have ea9 : ∀ o, effO a ba = some o → kls o ≠ 9 := fun o ho => by
      rcases (effO_spec ho).2.2 with rfl | h0
      · exact ha9
      · rw [h0]; decide
    obtain ⟨hX1, s0, hK0, hs0, hv0⟩ := opX'_out ea9 hs hX
    -- the guard of b
    have hgb : ∀ s' : St, (∀ t, (∀ o, effO a ba = some o → t ∉ wrT o) → vw s'.env t = vw s.env t) → guardV s'.env b.g = guardV s.env b.g := fun s' hv => guardV_vw fun t bb hg => hv t fun o ho hw => by
      have := disj_spec d1 ((effO_spec ho).1 t hw)
      exact this (by simp [gT, hg])
    cases hb : guardV s.env b.g with
    | none =>
      have := hgb s0 hv0
      rw [hb] at this
      simp only [itX, this] at hK0
    | some bb =>
      have eb9 : ∀ o, effO b bb = some o → kls o ≠ 9 := fun o ho => by
        rcases (effO_spec ho).2.2 with rfl | h0
        · exact hb9
        · rw [h0]; decide
      have hX2 : opX' P gl D s (fun s1 => opX' P gl D s1 K (effO b bb)) (effO a ba) := opX'_mono hX1 fun s' hh => by
        have := hgb s' hh.2.2
        rw [hb] at this
        exact (itX_eff this).1 hh.1
      rw [itX_eff hb]
      -- the exchange
      have hX3 : opX' P gl D s (fun s1 => opX' P gl D s1 K (effO a ba)) (effO b bb) := by
        cases hea : effO a ba with
        | none => rw [hea] at hX2; exact hX2
        | some oa =>
          cases heb : effO b bb with
          | none => rw [hea, heb] at hX2; exact hX2
          | some ob =>
            rw [hea, heb] at hX2
            simp only [opX'] at hX2 ⊢
            obtain ⟨wa, ra, ka⟩ := effO_spec hea
            obtain ⟨wb, rb, kb⟩ := effO_spec heb
            have ab : ∀ t ∈ wrT oa, t ∉ rdT ob ∧ t ∉ wrT ob := fun t ht => by
              have := disj_spec d1 (wa t ht)
              simp only [List.mem_append, not_or] at this
              exact ⟨fun h => this.2.1 (rb t h), fun h => this.2.2 (wb t h)⟩
            have ba' : ∀ t ∈ wrT ob, t ∉ rdT oa ∧ t ∉ wrT oa := fun t ht => by
              have := disj_spec d2 (wb t ht)
              simp only [List.mem_append, not_or] at this
              exact ⟨fun h => this.2.1 (ra t h), fun h => this.2.2 (wa t h)⟩
            have hcase : pairOk (kls oa) (kls ob) = true ∨ roP (kls oa) (kls ob) = true ∨ mapP oa ob = true := by
              rcases ka with rfl | ka
              · rcases kb with rfl | kb
                · simpa [Bool.or_eq_true, or_assoc] using hp
                · rw [kb]; exact .inl hp1
              · rcases kb with rfl | kb
                · rw [ka]; exact .inl hp2
                · rw [ka, kb]; exact .inl rfl
            rcases hcase with hok | hro | hmp
            · exact swap hs ⟨ab, ba', hok⟩ hX2
            · simp only [roP, Bool.or_eq_true, Bool.and_eq_true, beq_iff_eq] at hro
              rcases hro with ⟨h5, h56⟩ | ⟨h6, h5⟩
              · exact (swapR h5 h56 ab ba').1 hX2
              · exact (swapR h5 (.inr h6) ba' ab).2 hX2
            · rcases mapP_spec hmp with ⟨d, y, n, ag, ks, d', m, k, z, rfl, rfl⟩ | ⟨d, y, n, ag, ks, d', m, k, z, rfl, rfl⟩
              · exact (swapL ab ba').1 hX2
              · exact (swapL ba' ab).2 hX2
      -- the guard of a
      refine opX'_mono (opX'_out eb9 hs hX3).1 fun s' hh => ?_
      have : guardV s'.env a.g = guardV s.env a.g := guardV_vw fun t bb' hg => hh.2.2 t fun o ho hw => by
        have := disj_spec d2 ((effO_spec ho).1 t hw)
        exact this (by simp [gT, hg])
      rw [hga] at this
      exact (itX_eff this).2 hh.1
end
end AM
/-! Regions that draw their order: every order does what the order of the text does. -/
namespace AM
open Go

/-- An order that respects the edges. -/
inductive Topo (md : Region.Mode) (ops : Array Oper) : List Nat → List Nat → Prop
  | nil (done : List Nat) : Topo md ops done []
  | cons (done L : List Nat) (i : Nat) (o : Oper) (ho : ops[i]? = some o) (hi : i ∉ done) (he : ∀ e ∈ o.after.toList, Region.binds md e = true → e.on ∈ done) (hL : Topo md ops (i :: done) L) : Topo md ops done (i :: L)

theorem Topo.lt {md : Region.Mode} {ops : Array Oper} {done L : List Nat} (h : Topo md ops done L) : ∀ i ∈ L, i < ops.size := by
  induction h with
  | nil => simp
  | cons done L i o ho hi he hL ih =>
    intro j hj
    rcases List.mem_cons.1 hj with rfl | hj
    · exact (Array.getElem?_eq_some_iff.1 ho).1
    · exact ih j hj
theorem Topo.nodup {md : Region.Mode} {ops : Array Oper} {done L : List Nat} (h : Topo md ops done L) : L.Nodup ∧ ∀ i ∈ L, i ∉ done := by
  induction h with
  | nil => simp
  | cons done L i o ho hi he hL ih =>
    refine ⟨List.nodup_cons.2 ⟨fun h => (ih.2 i h) (by simp), ih.1⟩, fun j hj => ?_⟩
    rcases List.mem_cons.1 hj with rfl | hj
    · exact hi
    · exact fun h => ih.2 j hj (by simp [h])

/-- 'listed' is 'done'. -/
def LD (ops : Array Oper) (l : Array Bool) (done : List Nat) : Prop := l.size = ops.size ∧ ∀ i, l[i]? = some true ↔ i ∈ done
theorem LD.getD {ops : Array Oper} {l : Array Bool} {done : List Nat} (h : LD ops l done) (i : Nat) : l.getD i false = true ↔ i ∈ done := by
  rw [← h.2 i, Array.getD_eq_getD_getElem?]
  cases l[i]? with
  | none => simp
  | some b => simp
theorem LD.set {ops : Array Oper} {l : Array Bool} {done : List Nat} (h : LD ops l done) {i : Nat} (hi : i < ops.size) : LD ops (l.setIfInBounds i true) (i :: done) := by
  refine ⟨by simp [h.1], fun j => ?_⟩
  rw [Array.getElem?_setIfInBounds]
  by_cases e : i = j
  · subst e; simp [h.1, hi]
  · simp [e, h.2 j, Ne.symm e]
theorem ready_iff {md : Region.Mode} {ops : Array Oper} {l : Array Bool} {done : List Nat} (h : LD ops l done) (i : Nat) : i ∈ Region.ready md ops l ↔ ∃ o, ops[i]? = some o ∧ i ∉ done ∧ ∀ e ∈ o.after.toList, Region.binds md e = true → e.on ∈ done := by
  unfold Region.ready
  simp only [List.mem_filter, List.mem_range, Bool.and_eq_true, Bool.not_eq_true']
  constructor
  · rintro ⟨h1, h2, h3⟩
    refine ⟨ops[i], by simp [h1], ?_, ?_⟩
    · intro hd
      have := (h.2 i).2 hd
      rw [Array.getD_eq_getD_getElem?, this] at h2
      simp at h2
    · intro e he hb
      rw [show ops[i]? = some ops[i] by simp [h1]] at h3
      simp only [Option.map_some, Option.getD_some] at h3
      rw [Array.all_eq_true_iff_forall_mem] at h3
      have := h3 e (by simpa using he)
      rw [hb] at this
      simp only [Bool.not_true, Bool.false_or] at this
      exact (h.getD _).1 this
  · rintro ⟨o, h1, h2, h3⟩
    have hi := (Array.getElem?_eq_some_iff.1 h1).1
    refine ⟨hi, ?_, ?_⟩
    · rw [Array.getD_eq_getD_getElem?]
      have hl : i < l.size := by rw [h.1]; exact hi
      have hn : l[i]? ≠ some true := fun e => h2 ((h.2 i).1 e)
      simp only [Array.getElem?_eq_getElem hl, Option.some.injEq, ne_eq, Bool.not_eq_true] at hn
      simp [hl, hn]
    · rw [h1]
      simp only [Option.map_some, Option.getD_some]
      rw [Array.all_eq_true_iff_forall_mem]
      intro e he
      cases hb : Region.binds md e with
      | false => simp
      | true => simp [(h.getD e.on).2 (h3 e (by simpa using he) hb)]

theorem go_eq {md : Region.Mode} {ops : Array Oper} {fuel t : Nat} {l : Array Bool} : Region.linearise.go md ops (fuel + 1) t l [] = (match (Region.ready md ops l)[t % (Region.ready md ops l).length]? with
      | some i => i :: Region.linearise.go md ops fuel (t / (Region.ready md ops l).length) (l.setIfInBounds i true) []
      | none => []) := by
  simp only [Region.linearise.go]
  change (match (Region.ready md ops l)[t % (Region.ready md ops l).length]? with
      | some i => Region.linearise.go md ops fuel (t / (Region.ready md ops l).length) (l.setIfInBounds i true) [i]
      | none => [].reverse) = _
  split
  · rename_i i hi
    rw [linearise_go_acc]
    simp
  · simp
theorem go_topo {md : Region.Mode} {ops : Array Oper} : ∀ (fuel t : Nat) (l : Array Bool) (done : List Nat), LD ops l done → Topo md ops done (Region.linearise.go md ops fuel t l [])
  | 0, t, l, done, h => by simp only [Region.linearise.go]; exact .nil _
  | fuel + 1, t, l, done, h => by
    rw [go_eq]
    split
    · rename_i i hi
      obtain ⟨o, h1, h2, h3⟩ := (ready_iff h i).1 (List.mem_of_getElem? hi)
      exact .cons _ _ i o h1 h2 h3 (go_topo fuel _ _ _ (h.set (Array.getElem?_eq_some_iff.1 h1).1))
    · exact .nil _
/-- There is always one more. -/
theorem ready_of {md : Region.Mode} {ops : Array Oper} {W : List Nat} : ∀ {done0 : List Nat}, Topo md ops done0 W → ∀ {l : Array Bool} {done : List Nat}, LD ops l done → (∀ i ∈ done0, i ∈ done) → (∃ i ∈ W, i ∉ done) → Region.ready md ops l ≠ [] := by
  intro done0 hW
  induction hW with
  | nil => intro l done _ _ ⟨i, hi, _⟩; simp at hi
  | cons done0 L i o ho hi he hL ih =>
    intro l done h hsub hex
    by_cases hd : i ∈ done
    · refine ih h (fun j hj => ?_) ?_
      · rcases List.mem_cons.1 hj with rfl | hj
        · exact hd
        · exact hsub j hj
      · obtain ⟨j, hj, hj2⟩ := hex
        rcases List.mem_cons.1 hj with rfl | hj
        · exact absurd hd hj2
        · exact ⟨j, hj, hj2⟩
    · intro hr
      have : i ∈ Region.ready md ops l := (ready_iff h i).2 ⟨o, ho, hd, fun e h1 h2 => hsub _ (he e h1 h2)⟩
      rw [hr] at this
      simp at this
theorem nodup_len {n : Nat} : ∀ {L : List Nat}, L.Nodup → (∀ i ∈ L, i < n) → L.length ≤ n := by
  intro L h1 h2
  have : L ⊆ List.range n := fun i hi => List.mem_range.2 (h2 i hi)
  have h := List.Nodup.length_le_of_subset h1 this
  simpa using h
theorem full_mem {n : Nat} {L : List Nat} (h1 : L.Nodup) (h2 : ∀ i ∈ L, i < n) (h3 : L.length = n) : ∀ i, i < n → i ∈ L := by
  intro i hi
  by_cases h : i ∈ L
  · exact h
  · have : (i :: L).Nodup := List.nodup_cons.2 ⟨h, h1⟩
    have h4 := nodup_len this (n := n) (by
      intro j hj
      rcases List.mem_cons.1 hj with rfl | hj
      · exact hi
      · exact h2 j hj)
    simp at h4
    omega
theorem go_len {md : Region.Mode} {ops : Array Oper} {W : List Nat} (hW : Topo md ops [] W) (hWn : W.length = ops.size) : ∀ (fuel t : Nat) (l : Array Bool) (done : List Nat), LD ops l done → done.Nodup → (∀ i ∈ done, i < ops.size) → fuel + done.length = ops.size → (Region.linearise.go md ops fuel t l []).length = fuel
  | 0, t, l, done, h, _, _, _ => by simp [Region.linearise.go]
  | fuel + 1, t, l, done, h, hn, hd, hf => by
    have hne : Region.ready md ops l ≠ [] := by
      refine ready_of hW h (by simp) ?_
      by_cases hex : ∃ i ∈ W, i ∉ done
      · exact hex
      · have : W ⊆ done := fun i hi => by
          by_cases h : i ∈ done
          · exact h
          · exact absurd ⟨i, hi, h⟩ hex
        have := List.Nodup.length_le_of_subset hW.nodup.1 this
        omega
    rw [go_eq]
    split
    · rename_i i hi
      obtain ⟨o, h1, h2, h3⟩ := (ready_iff h i).1 (List.mem_of_getElem? hi)
      have hi' := (Array.getElem?_eq_some_iff.1 h1).1
      rw [List.length_cons, go_len hW hWn fuel _ _ (i :: done) (h.set hi') (List.nodup_cons.2 ⟨h2, hn⟩) (by
        intro j hj
        rcases List.mem_cons.1 hj with rfl | hj
        · exact hi'
        · exact hd j hj) (by simp; omega)]
    · rename_i hi
      have hp : 0 < (Region.ready md ops l).length := List.length_pos_iff.2 hne
      have := List.getElem?_eq_none_iff.1 hi
      have hm := Nat.mod_lt t hp
      omega

/-- The edges point back. -/
def backOk (md : Region.Mode) : List Oper → Nat → Bool
  | [], _ => true
  | o :: os, i => (o.after.toList.all fun e => !Region.binds md e || e.on < i) && backOk md os (i + 1)
def topoOk (md : Region.Mode) (ops : Array Oper) : Bool := backOk md ops.toList 0 || (Region.linearise md ops 0).length == ops.size
theorem back_topo {md : Region.Mode} {ops : Array Oper} : ∀ (os : List Oper) (i : Nat) (done : List Nat), (∀ k o, os[k]? = some o → ops[i + k]? = some o) → (∀ j, j ∈ done ↔ j < i) → backOk md os i = true → Topo md ops done ((List.range os.length).map (i + ·))
  | [], i, done, _, _, _ => by simp; exact .nil _
  | o :: os, i, done, h, hd, hb => by
    simp only [backOk, Bool.and_eq_true, List.all_eq_true, Bool.or_eq_true, Bool.not_eq_true', decide_eq_true_eq] at hb
    rw [List.length_cons, List.range_succ_eq_map, List.map_cons, List.map_map]
    refine .cons _ _ (i + 0) o (h 0 o (by simp)) (by simp [hd]) (fun e he hbd => ?_) ?_
    · rcases hb.1 e he with h1 | h1
      · rw [hbd] at h1; cases h1
      · exact (hd _).2 h1
    · have := back_topo os (i + 1) (i :: done) (fun k o' hk => by
        have := h (k + 1) o' (by simpa using hk)
        rw [show i + 1 + k = i + (k + 1) by omega]; exact this) (fun j => by simp [hd]; omega) hb.2
      have e : ((fun x => i + x) ∘ Nat.succ) = fun x => i + 1 + x := by funext x; simp; omega
      rw [e]
      exact this
theorem LD.init (ops : Array Oper) : LD ops (Array.replicate ops.size false) [] := ⟨by simp, fun i => by
  rw [Array.getElem?_replicate]
  split <;> simp⟩
theorem lin_spec {md : Region.Mode} {ops : Array Oper} (h : topoOk md ops = true) (t : Nat) : Topo md ops [] (Region.linearise md ops t) ∧ (Region.linearise md ops t).length = ops.size := by
  refine ⟨go_topo _ _ _ _ (LD.init ops), ?_⟩
  simp only [topoOk, Bool.or_eq_true, beq_iff_eq] at h
  have : ∃ W, Topo md ops [] W ∧ W.length = ops.size := by
    rcases h with h | h
    · exact ⟨_, back_topo ops.toList 0 [] (fun k o hk => by simpa using hk) (by simp) h, by simp⟩
    · exact ⟨_, go_topo _ _ _ _ (LD.init ops), h⟩
  obtain ⟨W, h1, h2⟩ := this
  exact go_len h1 h2 _ _ _ [] (LD.init ops) (by simp) (by simp) (by simp)
theorem binds_any {md : Region.Mode} {e : Edge} (h : Region.binds .any e = true) : Region.binds md e = true := by
  unfold Region.binds at h ⊢
  split at h <;> simp_all
theorem Topo.any {md : Region.Mode} {ops : Array Oper} {done L : List Nat} (h : Topo md ops done L) : Topo .any ops done L := by
  induction h with
  | nil => exact .nil _
  | cons done L i o ho hi he hL ih => exact .cons _ _ i o ho hi (fun e h1 h2 => he e h1 (binds_any h2)) ih
/-- What must stand before. -/
theorem before_spec {ops : Array Oper} {S : Nat → Prop} (hS : ∀ j o, S j → ops[j]? = some o → ∀ e ∈ o.after.toList, Region.binds .any e = true → S e.on) {i j : Nat} (hj : S j) (hb : ((CheckFast.beforeF ops).getD j 0).testBit i = true) : S i := by
  have key : ∀ (l : List Oper) (A : Array Nat), (∀ k o, l[k]? = some o → ops[A.size + k]? = some o) → (∀ j i, S j → (A.getD j 0).testBit i = true → S i) →
      ∀ j i, S j → ((l.foldl (fun acc o => acc.push (CheckFast.one (fun i => acc.getD i 0) o)) A).getD j 0).testBit i = true → S i := by
    intro l
    induction l with
    | nil => intro A _ h; exact h
    | cons o l ih =>
      intro A hl hA
      simp only [List.foldl_cons]
      refine ih _ (fun k o' hk => ?_) ?_
      · have := hl (k + 1) o' (by simpa using hk)
        rw [Array.size_push, show A.size + 1 + k = A.size + (k + 1) by omega]; exact this
      · intro j i hj hb
        rw [Array.getD_eq_getD_getElem?, Array.getElem?_push] at hb
        split at hb
        · rename_i e
          subst e
          have ho := hl 0 o (by simp)
          simp only [Option.getD_some] at hb
          have hall : ∀ e ∈ o.after.toList, Region.binds .any e = true → S e.on := hS _ o hj (by simpa using ho)
          unfold CheckFast.one at hb
          rw [← Array.foldl_toList] at hb
          have aux : ∀ (es : List Edge) (z : Nat), (∀ e ∈ es, Region.binds .any e = true → S e.on) → (z.testBit i = true → S i) →
              (es.foldl (fun s e => if Region.binds .any e = true then s ||| 2 ^ e.on ||| A.getD e.on 0 else s) z).testBit i = true → S i := by
            intro es
            induction es with
            | nil => intro z _ hz h; exact hz h
            | cons e es ih2 =>
              intro z hall hz
              simp only [List.foldl_cons]
              refine ih2 _ (fun e' he' => hall e' (by simp [he'])) ?_
              intro hz2
              split at hz2
              · rename_i hbd
                have he := hall e (by simp) hbd
                simp only [Nat.testBit_or, Bool.or_eq_true, Nat.testBit_two_pow, decide_eq_true_eq] at hz2
                rcases hz2 with (h | h) | h
                · exact hz h
                · rw [← h]; exact he
                · exact hA _ _ he h
              · exact hz hz2
          exact aux _ 0 hall (by simp) hb
        · exact hA j i hj (by rw [Array.getD_eq_getD_getElem?]; exact hb)
  rw [CheckFast.beforeF_eq] at hb
  unfold Region.before at hb
  rw [← Array.foldl_toList] at hb
  exact key ops.toList #[] (fun k o hk => by simpa using hk) (by simp) j i hj hb

section
variable {P : Program} {gl : Glob} {D : Dets}
/-- An operation comes forward. -/
theorem runR_front {b : It} {T2 : List It} {K : St → Prop} (hb : kls b.o ≠ 9) : ∀ (T1 : List It), (∀ a ∈ T1, kls a.o ≠ 9 ∧ indep a b = true) → ∀ {s : St}, s.env.Sorted → runR P gl D (T1 ++ b :: T2) s K → runR P gl D (b :: (T1 ++ T2)) s K
  | [], _, s, _, h => h
  | a :: T1, h, s, hs, hr => by
    obtain ⟨h1, h2⟩ := h a (by simp)
    rw [List.cons_append, runR_cons] at hr
    have hr2 := itX_mono (K' := fun s' => runR P gl D (b :: (T1 ++ T2)) s' K) (fun s' hh => runR_front hb T1 (fun a ha => h a (by simp [ha])) hh.2 hh.1) (itX_sorted h1 hs hr)
    have hr3 : itX P gl D s (fun s1 => itX P gl D s1 (fun s2 => runR P gl D (T1 ++ T2) s2 K) b) a := itX_mono (fun s' hh => runR_cons.1 hh) hr2
    have := swapIt h1 hb hs h2 hr3
    rw [List.cons_append]
    exact runR_cons.2 (itX_mono (fun s' hh => runR_cons.2 hh) this)

/-- Which pairs may be exchanged, or stand as the edges say. -/
def PairsOk (ops : Array Oper) (its : List It) : Prop := ∀ i j a b, i < j → its[i]? = some a → its[j]? = some b → indep a b = true ∨ ((CheckFast.beforeF ops).getD j 0).testBit i = true
theorem runR_topo {ops : Array Oper} {its : List It} {K : St → Prop} (hn : its.length = ops.size) (hk : ∀ it ∈ its, kls it.o ≠ 9) (hp : PairsOk ops its) :
    ∀ {done L : List Nat}, Topo .any ops done L → ∀ {T : List Nat} {s : St}, T.Pairwise (· < ·) → (∀ x, x ∈ T ↔ x ∈ L) → (∀ j ∈ done, ∀ o, ops[j]? = some o → ∀ e ∈ o.after.toList, Region.binds .any e = true → e.on ∈ done) → s.env.Sorted →
      runR P gl D (T.filterMap (its[·]?)) s K → runR P gl D (L.filterMap (its[·]?)) s K := by
  intro done L hL
  induction hL with
  | nil =>
    intro T s hT hm _ _ hr
    have : T = [] := by
      cases T with
      | nil => rfl
      | cons x T => have := (hm x).1 (by simp); simp at this
    subst this
    exact hr
  | cons done L i o ho hi he hL ih =>
    intro T s hT hm hd hs hr
    have hiT : i ∈ T := (hm i).2 (by simp)
    obtain ⟨T1, T2, rfl⟩ := List.append_of_mem hiT
    have hil := (Array.getElem?_eq_some_iff.1 ho).1
    have hiti : its[i]? = some (its[i]'(by omega)) := by simp [show i < its.length by omega]
    generalize its[i]'(by omega) = b at hiti
    rw [List.pairwise_append, List.pairwise_cons] at hT
    obtain ⟨hT1, ⟨hT2a, hT2⟩, hT12⟩ := hT
    have hnd := (Topo.cons done L i o ho hi he hL).nodup
    rw [List.filterMap_append, List.filterMap_cons, hiti] at hr
    simp only at hr
    have hfr := runR_front (P := P) (gl := gl) (D := D) (hk b (List.mem_of_getElem? hiti)) (T1.filterMap (its[·]?)) (by
      intro a ha
      rw [List.mem_filterMap] at ha
      obtain ⟨t, ht, hta⟩ := ha
      refine ⟨hk a (List.mem_of_getElem? hta), ?_⟩
      have hlt := hT12 t ht i (by simp)
      rcases hp t i a b hlt hta hiti with h | h
      · exact h
      · have : t ∈ i :: done := before_spec (S := fun j => j ∈ i :: done) (fun j o' hj ho' e he' hb => by
          rcases List.mem_cons.1 hj with rfl | hj
          · rw [ho] at ho'; cases ho'
            exact List.mem_cons.2 (.inr (he e he' hb))
          · exact List.mem_cons.2 (.inr (hd j hj o' ho' e he' hb))) (by simp) h
        rcases List.mem_cons.1 this with e | h
        · omega
        · have : t ∈ i :: L := (hm t).1 (by simp [ht])
          exact absurd h (hnd.2 t this)) hs hr
    rw [List.filterMap_cons, hiti]
    simp only
    rw [runR_cons] at hfr ⊢
    refine itX_mono (fun s' hh => ?_) (itX_sorted (hk b (List.mem_of_getElem? hiti)) hs hfr)
    obtain ⟨hh, hs'⟩ := hh
    rw [← List.filterMap_append] at hh
    refine ih (T := T1 ++ T2) ?_ ?_ ?_ hs' hh
    · exact List.pairwise_append.2 ⟨hT1, hT2, fun a ha b hb => hT12 a ha b (by simp [hb])⟩
    · intro x
      have hx := hm x
      simp only [List.mem_append, List.mem_cons] at hx ⊢
      constructor
      · intro h
        have h2 : x = i ∨ x ∈ L := hx.1 (by rcases h with h | h <;> simp [h])
        rcases h2 with rfl | h2
        · rcases h with h | h
          · exact absurd (hT12 x h x (by simp)) (Nat.lt_irrefl _)
          · exact absurd (hT2a x h) (Nat.lt_irrefl _)
        · exact h2
      · intro h
        have h2 := hx.2 (.inr h)
        rcases h2 with h2 | rfl | h2
        · exact .inl h2
        · exact absurd h (List.nodup_cons.1 hnd.1).1
        · exact .inr h2
    · intro j hj o' ho' e he' hb
      rcases List.mem_cons.1 hj with rfl | hj
      · rw [ho] at ho'; cases ho'
        exact List.mem_cons.2 (.inr (he e he' hb))
      · exact List.mem_cons.2 (.inr (hd j hj o' ho' e he' hb))

def chkPairs (b : List Nat) (rest : List It) : Nat → List It → Bool
  | _, [] => true
  | i, a :: its => (match rest with | [] => true | _ :: r => (List.zip b r).all (fun p => p.1.testBit i || indep a p.2) && chkPairs b.tail r (i + 1) its)
/-- Every pair of operations may be exchanged, or an edge holds it. -/
def drawOk (ops : Array Oper) (its : List It) : Bool := topoOk .any ops && topoOk .text ops && topoOk .gc ops && its.all (fun it => kls it.o != 9) && chkPairs (CheckFast.beforeF ops).toList.tail its 0 its
theorem chkPairs_spec {B : List Nat} {its : List It} (hB : B.length = its.length) : ∀ (k : Nat) (l : List It), l = its.drop k → chkPairs (B.drop (k + 1)) l k l = true → ∀ i j a b, k ≤ i → i < j → its[i]? = some a → its[j]? = some b → (B.getD j 0).testBit i = true ∨ indep a b = true := by
  intro k l
  induction l generalizing k with
  | nil =>
    intro hl _ i j a b hki hij ha hb
    have : its.length ≤ k := by
      have := congrArg List.length hl
      simp at this; omega
    have := (List.getElem?_eq_some_iff.1 ha).1
    omega
  | cons x l ih =>
    intro hl hc i j a b hki hij ha hb
    simp only [chkPairs, Bool.and_eq_true, List.all_eq_true] at hc
    have hl2 : l = its.drop (k + 1) := by
      have := congrArg List.tail hl
      simpa [List.tail_drop] using this
    by_cases e : k = i
    · subst e
      have hx : x = a := by
        have : (its.drop k)[0]? = some x := by rw [← hl]; rfl
        rw [List.getElem?_drop, Nat.add_zero, ha] at this
        exact (Option.some.inj this).symm
      subst hx
      have hjB : j < B.length := by rw [hB]; exact (List.getElem?_eq_some_iff.1 hb).1
      have hm : (B.getD j 0, b) ∈ List.zip (B.drop (k + 1)) l := by
        refine List.mem_of_getElem? (i := j - (k + 1)) ?_
        rw [List.getElem?_zip_eq_some]
        rw [hl2, List.getElem?_drop, List.getElem?_drop, show k + 1 + (j - (k + 1)) = j by omega]
        refine ⟨?_, hb⟩
        rw [List.getD_eq_getElem?_getD, List.getElem?_eq_getElem hjB]; rfl
      have := hc.1 _ hm
      simpa [Bool.or_eq_true] using this
    · refine ih (k + 1) hl2 ?_ i j a b (by omega) hij ha hb
      have := hc.2
      rwa [List.tail_drop] at this
theorem drawOk_spec {ops : Array Oper} {its : List It} (hn : its.length = ops.size) (h : drawOk ops its = true) : (∀ md, topoOk md ops = true) ∧ (∀ it ∈ its, kls it.o ≠ 9) ∧ PairsOk ops its := by
  simp only [drawOk, Bool.and_eq_true, List.all_eq_true, bne_iff_ne] at h
  obtain ⟨⟨⟨⟨h1, h2⟩, h3⟩, h4⟩, h5⟩ := h
  refine ⟨fun md => by cases md <;> assumption, h4, ?_⟩
  intro i j a b hij ha hb
  have hlen : (CheckFast.beforeF ops).toList.length = its.length := by
    rw [CheckFast.beforeF_eq]
    unfold Region.before
    rw [hn, ← Array.foldl_toList]
    have : ∀ (l : List Oper) (A : Array Nat) (f : Array Nat → Oper → Nat), (l.foldl (fun acc o => acc.push (f acc o)) A).size = A.size + l.length := by
      intro l
      induction l with
      | nil => intro A f; simp
      | cons o l ih => intro A f; simp only [List.foldl_cons]; rw [ih]; simp; omega
    simpa using this ops.toList #[] _
  have hB : (CheckFast.beforeF ops).toList.tail = (CheckFast.beforeF ops).toList.drop (0 + 1) := by simp
  rw [hB] at h5
  rcases chkPairs_spec hlen 0 its (by simp) h5 i j a b (by omega) hij ha hb with h | h
  · right
    rwa [Array.getD_eq_getD_getElem?, ← Array.getElem?_toList, ← List.getD_eq_getElem?_getD]
  · exact .inl h
theorem sched_sound {ops : Array Oper} {its : List It} {K : St → Prop} {m : Bool} {s : St} (hn : its.length = ops.size) (hd : drawOk ops its = true) (hs : s.env.Sorted) (t : Nat) (hr : runR P gl D its s K) :
    runR P gl D ((Region.schedule m ops t).filterMap (its[·]?)) s K := by
  obtain ⟨h1, h2, h3⟩ := drawOk_spec hn hd
  have key : ∀ md t, runR P gl D ((Region.linearise md ops t).filterMap (its[·]?)) s K := by
    intro md t
    obtain ⟨q1, q2⟩ := lin_spec (h1 md) t
    have hr2 : runR P gl D ((List.range ops.size).filterMap (its[·]?)) s K := by
      have : (List.range ops.size).filterMap (its[·]?) = its := by
        rw [← hn]
        clear hr hn hd h2 h3
        induction its with
        | nil => rfl
        | cons x xs ih =>
          rw [List.length_cons, List.range_succ_eq_map, List.filterMap_cons]
          simp only [List.getElem?_cons_zero, List.filterMap_map]
          congr 1
      rw [this]; exact hr
    exact runR_topo hn h2 h3 q1.any List.pairwise_lt_range (fun x => ⟨fun hx => full_mem q1.nodup.1 q1.lt q2 x (List.mem_range.1 hx), fun hx => List.mem_range.2 (q1.lt x hx)⟩) (by simp) hs hr2
  unfold Region.schedule
  split <;> exact key _ _
end
section
variable (P : Program) (N : Nat)
def chk : Code → SCode → Bool
  | c, .asm _ s => chk c s
  | c, .drop _ s => chk c s
  | c, .kill _ s => chk c s
  | c, .frz _ e sz s => okElem P e sz && chk c s
  | c, .frzb _ _ e sz s => okElem P e sz && chk c s
  | .skip, .skip => true
  | .region _ ops draw, .reg its _ => chkIts P N ops ops.toList its && (!draw || drawOk ops its)
  | .seq a b, .seq a' b' => chk a a' && chk b b'
  | .cond c a b, .cond c' a' b' => chkOpd c c' && chk a a' && chk b b'
  | .block i c, .block i' c' => i == i' && chk c c'
  | .loop c, .loop c' => chk c c'
  | .exit i, .exit j => i == j
  | .ret, .ret => true
  | _, .bad => true
  | _, _ => false
end
end AM
/-! The abstract machine's code is the model's: branches, loops, bodies. -/
namespace AM
open Go
section
variable {P : Program} {gl : Glob} {D : Dets} {N : Nat} {g g' : Gh} {s s' : St} {a : Act} {w w' : World} {o : Oper}

def exOf : Ex → Exit
  | .normal => .normal
  | .exit i => .exit i
  | .ret => .ret
/-- What holds after code. -/
def PostX (P : Program) (gl : Glob) (N : Nat) (g : Gh) (w : World) (Q : Ex → St → Prop) (e : Exit) (a' : Act) (w' : World) : Prop :=
  ∃ ex s' g', e = exOf ex ∧ Q ex s' ∧ GLe g w g' w' ∧ Rel P gl N g' s' a' w'

theorem linearise_lt {md : Region.Mode} {ops : Array Oper} : ∀ (fuel t : Nat) (l : Array Bool) (acc : List Nat), (∀ i ∈ acc, i < ops.size) → ∀ i ∈ Region.linearise.go md ops fuel t l acc, i < ops.size
  | 0, _, _, acc, h, i, hi => h i (by simpa [Region.linearise.go] using hi)
  | fuel + 1, t, l, acc, h, i, hi => by
    simp only [Region.linearise.go] at hi
    split at hi
    · rename_i j hj
      refine linearise_lt fuel _ _ (j :: acc) (fun k hk => ?_) i hi
      rcases List.mem_cons.1 hk with rfl | hk
      · have := List.mem_of_getElem? hj
        simp only [List.mem_filter, List.mem_range] at this
        exact this.1
      · exact h k hk
    · exact h i (by simpa using hi)
theorem schedule_lt {m : Bool} {ops : Array Oper} {t : Nat} : ∀ i ∈ Region.schedule m ops t, i < ops.size := by
  intro i hi
  unfold Region.schedule at hi
  split at hi <;> exact linearise_lt _ _ _ [] (by simp) i hi

theorem VR.list_len {own : Option Nat} {sz : Nat} {xs : List AV} {v : Value} (h : VR g (.list own sz xs) v) : xs.length ≤ M := by
  have hp : ∀ {v}, PR g.γ (.list none sz xs) v → xs.length ≤ M := fun h => by
    cases h with
    | list0 => simp
    | list _ _ _ _ _ h => exact h
  cases h with
  | pure _ _ h => cases own with
    | none => exact hp h
    | some e => cases h
  | own _ _ _ _ h => exact hp h
theorem VR.str_len {l : List UInt8} {v : Value} (h : VR g (.str l) v) : l.length ≤ M := by
  cases h with
  | pure _ _ h => cases h with
    | str _ h => exact h

theorem Rel.kill (h : Rel P gl N g s a w) (t : Nat) : Rel P gl N g (killS s t) a w := by
  unfold killS
  split
  · exact h.dead _
  · exact h.dead _
  · exact h
theorem exec_sound : ∀ (sc : SCode) (c : Code), chk P N c sc = true → ∀ (Q : Ex → St → Prop) (s : St) (g : Gh) (a : Act) (w : World), Rel P gl N g s a w → exec P gl D sc s Q → c.wp P (PostX P gl N g w Q) a w := by
  intro sc
  induction sc with
  | skip =>
    intro c hc Q s g a w h hx
    cases c <;> simp [chk] at hc
    exact wp_skip ⟨.normal, s, g, rfl, hx, .refl _ _, h⟩
  | ret =>
    intro c hc Q s g a w h hx
    cases c <;> simp [chk] at hc
    exact wp_ret ⟨.ret, s, g, rfl, hx, .refl _ _, h⟩
  | exit i =>
    intro c hc Q s g a w h hx
    cases c <;> simp [chk] at hc
    subst hc
    exact wp_exit ⟨.exit _, s, g, rfl, hx, .refl _ _, h⟩
  | asm t sc ih =>
    intro c hc Q s g a w h hx
    have hc' : chk P N c sc = true := by cases c <;> simpa [chk] using hc
    simp only [exec] at hx
    split at hx
    · rename_i own sz xs ht
      obtain ⟨v, _, h2, _⟩ := h.env _ _ ht
      exact ih c hc' Q s g a w h (hx h2.list_len)
    · rename_i l ht
      obtain ⟨v, _, h2, _⟩ := h.env _ _ ht
      exact ih c hc' Q s g a w h (hx h2.str_len)
    · exact hx.elim
  | drop ts sc ih =>
    intro c hc Q s g a w h hx
    have hc' : chk P N c sc = true := by cases c <;> simpa [chk] using hc
    exact ih c hc' Q _ g a w (h.close ts) hx
  | kill t sc ih =>
    intro c hc Q s g a w h hx
    have hc' : chk P N c sc = true := by cases c <;> simpa [chk] using hc
    exact ih c hc' Q _ g a w (h.kill t) hx
  | frz t e sz sc ih =>
    intro c hc Q s g a w h hx
    have hc' : okElem P e sz = true ∧ chk P N c sc = true := by cases c <;> simpa [chk] using hc
    simp only [exec] at hx
    split at hx
    · rename_i s1 hs1
      obtain ⟨g1, q1, q2⟩ := h.frz hc'.1 hs1
      refine wp_mono (ih c hc'.2 Q s1 g1 a w q2 hx) ?_
      rintro e a1 w1 ⟨ex, s2, g2, rfl, hq, hle, h2⟩
      exact ⟨ex, s2, g2, rfl, hq, q1.trans hle, h2⟩
    · exact hx.elim
  | frzb t off e sz sc ih =>
    intro c hc Q s g a w h hx
    have hc' : okElem P e sz = true ∧ chk P N c sc = true := by cases c <;> simpa [chk] using hc
    simp only [exec] at hx
    split at hx
    · rename_i s1 hs1
      obtain ⟨g1, q1, q2⟩ := h.frzb hc'.1 hs1
      refine wp_mono (ih c hc'.2 Q s1 g1 a w q2 hx) ?_
      rintro e a1 w1 ⟨ex, s2, g2, rfl, hq, hle, h2⟩
      exact ⟨ex, s2, g2, rfl, hq, q1.trans hle, h2⟩
    · exact hx.elim
  | bad => intro c hc Q s g a w h hx; exact hx.elim
  | reg its dr =>
    intro c hc Q s g a w h hx
    cases c <;> simp only [chk, Bool.false_eq_true] at hc
    rename_i id ops draw
    simp only [Bool.and_eq_true] at hc
    obtain ⟨hl, hall⟩ := chkIts_spec hc.1
    simp only [Array.length_toList] at hl
    have hidx : ∀ i, i < ops.size → ∃ o it, ops[i]? = some o ∧ its[i]? = some it ∧ chk1 P N ops o it = true := fun i hi => by
      refine ⟨ops[i], its[i]'(by omega), by simp [hi], by simp [show i < its.length by omega], hall i _ _ (by simp [hi]) (by simp [show i < its.length by omega])⟩
    have hQ : ∀ s' g' a' w', (fun s' : St => Q .normal { s' with env := s'.env.close dr }) s' → GLe g w g' w' → Rel P gl N g' s' a' w' → PostX P gl N g w Q .normal a' w' :=
      fun s' g' a' w' hk hle hr => ⟨.normal, _, g', rfl, hk, hle, hr.close dr⟩
    cases draw with
    | false =>
      refine wp_region (runR_wp (D := D) hQ _ (fun i hi => hidx i (by simpa using hi)) s g a w h (.refl _ _) ?_)
      rw [hl, filterMap_range]
      exact hx
    | true =>
      simp only [Bool.not_true, Bool.false_or] at hc
      refine wp_region_draw fun t => ?_
      have hQ' : ∀ s' g' a' w', (fun s' : St => Q .normal { s' with env := s'.env.close dr }) s' → GLe g { w with drawn := w.drawn + 1 } g' w' → Rel P gl N g' s' a' w' → PostX P gl N g w Q .normal a' w' :=
        fun s' g' a' w' hk hle hr => hQ s' g' a' w' hk ⟨⟨hle.γ, hle.ρ⟩, hle.outer, hle.size, hle.os, hle.out⟩ hr
      exact runR_wp (D := D) hQ' _ (fun i hi => hidx i (schedule_lt i hi)) s g a _ h.drawn (.refl _ _) (sched_sound hl.symm hc.2 h.sorted t hx)
  | seq x y ihx ihy =>
    intro c hc Q s g a w h hx
    cases c <;> simp only [chk, Bool.false_eq_true] at hc
    simp only [Bool.and_eq_true] at hc
    refine wp_seq (wp_mono (ihx _ hc.1 _ s g a w h hx) ?_)
    rintro e a1 w1 ⟨ex, s1, g1, rfl, hq, hle, h1⟩
    cases ex with
    | normal =>
      refine wp_mono (ihy _ hc.2 Q s1 g1 a1 w1 h1 hq) ?_
      rintro e a2 w2 ⟨ex, s2, g2, rfl, hq2, hle2, h2⟩
      exact ⟨ex, s2, g2, rfl, hq2, hle.trans hle2, h2⟩
    | exit i => exact ⟨.exit i, s1, g1, rfl, hq, hle, h1⟩
    | ret => exact ⟨.ret, s1, g1, rfl, hq, hle, h1⟩
  | cond x y z ihy ihz =>
    intro c hc Q s g a w h hx
    cases c <;> simp only [chk, Bool.false_eq_true] at hc
    simp only [Bool.and_eq_true] at hc
    simp only [exec] at hx
    split at hx
    · rename_i t ht
      have hv := evO_sound h hc.1.1 ht
      refine wp_cond hv.bool_inv ?_
      cases t with
      | true => exact ihy _ hc.1.2 Q s g a w h hx
      | false => exact ihz _ hc.2 Q s g a w h hx
    · exact hx.elim
  | block i x ih =>
    intro c hc Q s g a w h hx
    cases c <;> simp only [chk, Bool.false_eq_true] at hc
    simp only [Bool.and_eq_true, beq_iff_eq] at hc
    obtain ⟨rfl, hc⟩ := hc
    refine wp_block (wp_mono (ih _ hc _ s g a w h hx) ?_)
    rintro e a1 w1 ⟨ex, s1, g1, rfl, hq, hle, h1⟩
    cases ex with
    | normal => exact ⟨.normal, s1, g1, rfl, hq, hle, h1⟩
    | exit j =>
      simp only [exOf, Exit.inBlock]
      simp only at hq
      split <;> rename_i hj
      · rw [if_pos hj] at hq; exact ⟨.normal, s1, g1, rfl, hq, hle, h1⟩
      · rw [if_neg hj] at hq; exact ⟨.exit j, s1, g1, rfl, hq, hle, h1⟩
    | ret => exact ⟨.ret, s1, g1, rfl, hq, hle, h1⟩
  | loop x ih =>
    intro c hc Q s g a w h hx
    cases c <;> simp only [chk, Bool.false_eq_true] at hc
    rename_i c
    intro b k cs
    let X : St → Prop := fun s => ∀ g1 a1 w1, Rel P gl N g1 s a1 w1 → GLe g w g1 w1 →
      ∃ e a' w', PostX P gl N g w Q e a' w' ∧ Arrives P (lone (b.at a1 (.code c :: .inLoop c :: k)) cs w1) b k cs e a' w'
    have key : X s := by
      refine hx X fun s hF g1 a1 w1 h1 hle => ?_
      obtain ⟨e, a2, w2, ⟨ex, s2, g2, rfl, hq, hle2, h2⟩, harr⟩ := ih c hc _ s g1 a1 w1 h1 hF b (.inLoop c :: k) cs
      cases ex with
      | normal =>
        obtain ⟨e3, a3, w3, hq3, harr3⟩ := hq g2 a2 w2 h2 (hle.trans hle2)
        exact ⟨e3, a3, w3, hq3, .of_steps (Steps.trans harr (.one step_inLoop)) harr3⟩
      | exit i => exact ⟨_, a2, w2, ⟨.exit i, s2, g2, rfl, hq, hle.trans hle2, h2⟩, .pass (x := .inLoop c) rfl (fun _ _ => .inl (by simp [exOf])) harr⟩
      | ret => exact ⟨_, a2, w2, ⟨.ret, s2, g2, rfl, hq, hle.trans hle2, h2⟩, .pass (x := .inLoop c) rfl (fun _ _ => .inl (by simp [exOf])) harr⟩
    obtain ⟨e, a', w', hq, harr⟩ := key g a w h (.refl _ _)
    exact ⟨e, a', w', hq, .of_steps (.one step_loop) harr⟩
end
end AM
/-! The abstract machine's functions are the model's: results, bodies, calls with and without the heap. -/
namespace AM
open Go
def chkRes1 (P : Program) : ResultVar → RV → Bool
  | .tmp t, .t t' => t == t'
  | .cell x t, .b x' sz => x == x' && (match P.info? t with | some i => i.size == sz | none => false) && (match P.underlying t with | some (.struct _) => true | _ => false)
  | _, _ => false
def chkRes (P : Program) : List ResultVar → List RV → Bool
  | [], [] => true
  | r :: rs, v :: vs => chkRes1 P r v && chkRes P rs vs
  | _, _ => false
/-- The function f has k arguments, the given code and results. -/
def chkFn (P : Program) (f k : Nat) (sc : SCode) (rvs : List RV) : Bool :=
  chkCallee P f && match P.funcs[f]? with
  | some fn => (match fn.body with | some c => chk P fn.ntmps c sc && chkRes P fn.results.toList rvs && decide (k ≤ fn.ntmps) | none => false)
  | none => false
def pEnv : Nat → List AV → Env
  | _, [] => []
  | i, x :: xs => (i, .v x) :: pEnv (i + 1) xs
/-- What a call without the heap may give. -/
def AV.res : AV → Bool
  | .list _ _ _ => true
  | .tup vs => vs.all AV.arg
  | x => x.arg
/-- What must hold at the end of a body. -/
def endQ (K : St → Prop) : Ex → St → Prop
  | .exit _, _ => False
  | _, s => K s

/-- One result. -/
def resF (tmps : Array Value) : ResultVar → Sem Value
  | .tmp t => pure (tmps.getD t undef)
  | .cell x t => do loadVar t (← asAddr (tmps.getD x undef))
theorem results_eq (fn : Func) (tmps : Array Value) : results fn tmps = (fn.results.mapM (resF tmps)) >>= fun vs => pure (if h : vs.size = 1 then vs[0] else .tuple vs) := by
  unfold results
  refine congrArg (fun x : Sem (Array Value) => x >>= _) (congrArg (fun F => Array.mapM F fn.results) (funext fun r => ?_))
  cases r <;> rfl
section
variable {P : Program} {gl : Glob} {D : Dets} {N : Nat} {g g' : Gh} {s s' : St} {a : Act} {w w' : World} {o : Oper}

theorem res1_sound (h : Rel P gl N g s a w) {r : ResultVar} {rv : RV} {x : AV} (hc : chkRes1 P r rv = true) (hx : retV1 s.env rv = some x) :
    ∃ v, (resF a.tmps r).run P w = .ok v w ∧ VR g x v ∧ (NotOwn x ∨ ∃ t, rv = .t t ∧ OwnR P g w (.var t) x v) := by
  cases r with
  | tmp t =>
    cases rv with
    | b => simp [chkRes1] at hc
    | t t' =>
      simp [chkRes1] at hc
      subst hc
      simp only [retV1] at hx
      split at hx
      · rename_i y hy
        simp at hx; subst hx
        obtain ⟨v, h1, h2, h3⟩ := h.env _ _ hy
        have : a.tmps.getD t undef = v := by simp [Array.getD_eq_getD_getElem?, h1]
        exact ⟨v, by simp [resF, this], h2, .inr ⟨t, rfl, h3⟩⟩
      · cases hx
  | cell c t =>
    cases rv with
    | t => simp [chkRes1] at hc
    | b c' sz =>
      simp only [chkRes1, Bool.and_eq_true, beq_iff_eq] at hc
      obtain ⟨⟨rfl, hsz⟩, hk⟩ := hc
      simp only [retV1] at hx
      split at hx
      · rename_i cs hcs
        split at hx
        · rename_i hlen
          simp at hx; subst hx
          obtain ⟨b, h1, h2⟩ := h.env _ _ hcs
          obtain ⟨ws, q1, q2, q3, q4⟩ := h2.cells (off := 0) (n := cs.length)
          simp only [List.drop_zero, List.take_length] at q1 q2
          split at hsz
          · rename_i i hi
            simp at hsz
            split at hk
            · rename_i fs hu
              have hp : a.tmps.getD c undef = ptrTo b 0 := by simp [Array.getD_eq_getD_getElem?, h1]
              have hl := run_load_cells (P := P) (w := w) (b := b) (off := 0) hi hu (by omega) q4 (.inl ⟨fs, rfl⟩)
              refine ⟨.agg ws.toArray, ?_, .agg _ _ q2.noOwn q3, .inl fun e sz xs h => by simp at h⟩
              simp only [resF, hp]
              simpa [Instr.loadAt, Instr.sureAddr, ptrTo, asAddr] using hl
            · cases hk
          · cases hsz
        · cases hx
      · cases hx
theorem results_sound (h : Rel P gl N g s a w) : ∀ {rs : List ResultVar} {rvs : List RV} {xs : List AV}, chkRes P rs rvs = true → retVs s.env rvs = some xs →
    xs.length = rvs.length ∧ ∃ vs, (rs.mapM (resF a.tmps)).run P w = .ok vs w ∧ VRs g xs vs
  | [], [], xs, _, hx => by simp [retVs] at hx; subst hx; exact ⟨rfl, [], by simp, .nil⟩
  | [], _ :: _, _, hc, _ => by simp [chkRes] at hc
  | _ :: _, [], _, hc, _ => by simp [chkRes] at hc
  | r :: rs, rv :: rvs, xs, hc, hx => by
    simp only [chkRes, Bool.and_eq_true] at hc
    simp only [retVs] at hx
    split at hx
    · rename_i y ys h1 h2
      simp at hx; subst hx
      obtain ⟨v, q1, q2, _⟩ := res1_sound h hc.1 h1
      obtain ⟨hl, vs, p1, p2⟩ := results_sound h hc.2 h2
      refine ⟨by simp [hl], v :: vs, ?_, .cons _ _ _ _ q2.noOwn p2⟩
      rw [List.mapM_cons, Sem.run_bind, q1]
      simp only [Result.andThen_ok, Sem.run_bind]
      rw [p1]
      simp
    · cases hx
theorem retV_sound (h : Rel P gl N g s a w) {fn : Func} {rvs : List RV} {x : AV} (hc : chkRes P fn.results.toList rvs = true) (hx : retV s.env rvs = some x) :
    ∃ v, (results fn a.tmps).run P w = .ok v w ∧ VR g x v ∧ (NotOwn x ∨ ∃ t, rvs = [.t t] ∧ OwnR P g w (.var t) x v) := by
  rw [results_eq, Array.mapM_eq_mapM_toList]
  unfold retV at hx
  split at hx
  · rename_i rv
    generalize fn.results.toList = rs at hc
    match rs, hc with
    | [r], hc =>
      simp only [chkRes, Bool.and_true] at hc
      obtain ⟨v, h1, h2, h3⟩ := res1_sound h hc hx
      refine ⟨v, ?_, h2, h3.imp id fun ⟨t, q1, q2⟩ => ⟨t, by rw [q1], q2⟩⟩
      simp [h1]
    | _ :: _ :: _, hc => simp [chkRes] at hc
  · rename_i hne
    rw [Option.map_eq_some_iff] at hx
    obtain ⟨xs, hxs, rfl⟩ := hx
    obtain ⟨hlen, vs, h1, h2⟩ := results_sound h hc hxs
    refine ⟨.tuple vs.toArray, ?_, .tup _ _ h2, .inl fun e sz xs h => by simp at h⟩
    have hl : vs.length ≠ 1 := by
      intro hl
      rw [h2.get.1, hlen] at hl
      match rvs, hl with
      | [rv], _ => exact hne rv rfl
    simp [h1, hl]

theorem pEnv_get : ∀ (xs : List AV) (i t : Nat), Env.get (pEnv i xs) t = if i ≤ t then (xs[t - i]?).map .v else none
  | [], i, t => by simp [pEnv, Env.get]
  | x :: xs, i, t => by
    simp only [pEnv, Env.get, pEnv_get xs (i + 1) t]
    by_cases h1 : t = i
    · subst h1; simp
    · by_cases h2 : i ≤ t
      · have : t - i = (t - (i + 1)) + 1 := by omega
        simp [h1, h2, show i + 1 ≤ t by omega, this]
      · simp [h1, h2, show ¬ i + 1 ≤ t by omega]
theorem pEnv_lb : ∀ (xs : List AV) (i : Nat), ∀ p ∈ pEnv i xs, i ≤ p.1
  | [], _, p, h => by simp [pEnv] at h
  | x :: xs, i, p, h => by
    simp only [pEnv, List.mem_cons] at h
    rcases h with rfl | h
    · simp
    · have := pEnv_lb xs (i + 1) p h; omega
theorem pEnv_sorted : ∀ (xs : List AV) (i : Nat), (pEnv i xs).Pairwise fun p q => p.1 < q.1
  | [], _ => .nil
  | x :: xs, i => by
    simp only [pEnv, List.pairwise_cons]
    exact ⟨fun p hp => by have := pEnv_lb xs (i + 1) p hp; simp; omega, pEnv_sorted xs (i + 1)⟩

theorem chkFn_spec {f k : Nat} {sc : SCode} {rvs : List RV} (h : chkFn P f k sc rvs = true) : chkCallee P f = true ∧ ∃ fn c, P.funcs[f]? = some fn ∧ fn.body = some c ∧
    chk P fn.ntmps c sc = true ∧ chkRes P fn.results.toList rvs = true ∧ k ≤ fn.ntmps := by
  simp only [chkFn, Bool.and_eq_true] at h
  obtain ⟨h0, h⟩ := h
  split at h
  · rename_i fn hf
    split at h
    · rename_i c hb
      simp only [Bool.and_eq_true, decide_eq_true_eq] at h
      exact ⟨h0, fn, c, hf, hb, h.1.1, h.1.2, h.2⟩
    · cases h
  · cases h

/-- A body over a relation of its beginning: it returns what the abstract machine says. -/
theorem body_calls {f : Nat} {sc : SCode} {rvs : List RV} {xs : List AV} {vs : List Value} {H : List AObj} {Q : St → Prop} (hf : chkFn P f xs.length sc rvs = true)
    (h : Rel P gl 0 g (heapSt H) noAct w) (hv : VRs g xs vs) (ho : ∀ (i : Nat) x v, xs[i]? = some x → vs[i]? = some v → OwnR P g w (.var i) x v)
    (he : exec P gl D sc ⟨pEnv 0 xs, H⟩ (endQ Q)) (hQ : ∀ s, Q s → (retV s.env rvs).isSome = true) :
    Calls P f vs.toArray w fun e w' => ∃ v r s' g' a' N', e = .returned v ∧ Q s' ∧ retV s'.env rvs = some r ∧ GLe g w g' w' ∧ Rel P gl N' g' s' a' w' ∧ VR g' r v ∧
      (NotOwn r ∨ ∃ t, rvs = [.t t] ∧ OwnR P g' w' (.var t) r v) := by
  obtain ⟨_, fn, c, h1, h2, h3, h4, h5⟩ := chkFn_spec hf
  have hlen : vs.length = xs.length := hv.get.1
  have hR : Rel P gl fn.ntmps g ⟨pEnv 0 xs, H⟩ { tmps := vs.toArray ++ Array.replicate (fn.ntmps - vs.toArray.size) undef, defers := [] } w := by
    refine ⟨pEnv_sorted xs 0, by simp; omega, rfl, fun t e he => ?_, h.heap, h.gam, h.own, h.glob, h.rho⟩
    rw [pEnv_get] at he
    simp only [Nat.zero_le, if_true, Nat.sub_zero, Option.map_eq_some_iff] at he
    obtain ⟨x, hx, rfl⟩ := he
    obtain ⟨v, q1, q2⟩ := hv.get.2 t x hx
    have hlt : t < vs.length := by
      rcases Nat.lt_or_ge t vs.length with h | h
      · exact h
      · simp [List.getElem?_eq_none h] at q1
    exact ⟨v, by simp [Array.getElem?_append, hlt, ← q1], q2, ho t x v hx q1⟩
  refine calls_of_wp h1 h2 (wp_mono (exec_sound sc c h3 _ _ g _ w hR he) ?_)
  rintro e a1 w1 ⟨ex, s1, g1, rfl, hq, hle, hr⟩
  have key : Q s1 → a1.defers = [] ∧ ∃ v, (results fn a1.tmps).run P w1 = .ok v w1 ∧ ∃ v' r s' g' a' N', Ending.returned v = .returned v' ∧ Q s' ∧ retV s'.env rvs = some r ∧ GLe g w g' w1 ∧ Rel P gl N' g' s' a' w1 ∧ VR g' r v' ∧
      (NotOwn r ∨ ∃ t, rvs = [.t t] ∧ OwnR P g' w1 (.var t) r v') := fun hq => by
    obtain ⟨r, hr'⟩ := Option.isSome_iff_exists.1 (hQ s1 hq)
    obtain ⟨v, q1, q2, q3⟩ := retV_sound hr h4 hr'
    exact ⟨hr.defers, v, q1, v, r, s1, g1, a1, _, rfl, hq, hr', hle, hr, q2, q3⟩
  cases ex with
  | normal => exact key hq
  | exit i => exact hq.elim
  | ret => exact key hq
end
end AM
/-! The abstract machine's calls from its bodies. -/
namespace AM
open Go
section
variable {P : Program} {gl : Glob} {D : Dets} {N : Nat} {g g' : Gh} {s s' : St} {a : Act} {w w' : World} {o : Oper}

theorem CallT.intro {f : Nat} {sc : SCode} {rvs : List RV} {xs : List AV} {H : List AObj} {K : AV → List AObj → Prop} (hf : chkFn P f xs.length sc rvs = true)
    (he : exec P gl D sc ⟨pEnv 0 xs, H⟩ (endQ fun s => ∃ r, retV s.env rvs = some r ∧ K r s.heap)) : CallT P gl f xs H K := by
  refine ⟨(chkFn_spec hf).1, fun g w vs h hv ho => (body_calls hf h hv ho he fun s ⟨r, hr, _⟩ => by simp [hr]).mono ?_⟩
  rintro e w' ⟨v, r, s', g', a', N', rfl, ⟨r', hr', hK⟩, hr, hle, hrel, hvr, hown⟩
  rw [hr] at hr'; simp at hr'; subst hr'
  let Ω : Nat → Owner := fun b => match g'.Ω b with
    | .outer => .outer
    | .ob id => .ob id
    | .oc id i => .oc id i
    | .var _ => .var 0
    | _ => .none
  have hlt : ∀ b, Ω b ≠ .none → b < w'.heap.size := fun b hb => hrel.own b fun e => hb (by simp [Ω, e])
  refine ⟨v, r, s'.heap, ⟨g'.γ, Ω, g'.ρ⟩, rfl, hK, ⟨⟨hle.γ, hle.ρ⟩, fun b hb => ?_, hle.size, hle.os, hle.out⟩, hrel.heapOver Ω ?_ hlt, hvr.mono (⟨fun _ _ _ h => h, fun _ _ h => h⟩ : GhLe g' ⟨g'.γ, Ω, g'.ρ⟩), ?_⟩
  · obtain ⟨q1, q2, q3⟩ := hle.outer b hb
    exact ⟨by simp [Ω, q1], q2, q3⟩
  · rintro b (⟨id, e⟩ | ⟨id, i, e⟩) <;> simp [Ω, e]
  · rcases hown with hn | ⟨t, _, hown⟩
    · exact hn.ownR
    · intro e sz ys hx
      obtain ⟨j, z, us, m1, m2, m3, m4, m5, m6, m7, m8, m9⟩ := hown e sz ys hx
      exact ⟨j, z, us, m1, m2, m3, m4, m5, m6, m7, m8, fun b hb => ⟨by simp [Ω, (m9 b hb).1], (m9 b hb).2⟩⟩

theorem VR.arg_gv {x : AV} {v : Value} (h : VR g x v) (hx : x.arg = true) (g' : Gh) (hg : g'.γ = g.γ) : VR g' x v :=
  (arg_vr h hx).mono ⟨by rw [hg]; exact fun _ _ _ h => h, fun _ _ h => by cases h⟩
theorem VRs.arg_gv {xs : List AV} {vs : List Value} (h : VRs g xs vs) (hx : xs.all AV.arg = true) (g' : Gh) (hg : g'.γ = g.γ) : VRs g' xs vs :=
  (args_vrs h hx).mono ⟨by rw [hg]; exact fun _ _ _ h => h, fun _ _ h => by cases h⟩
theorem VR.res_gv {x : AV} {v : Value} (h : VR g x v) (hx : x.res = true) (g' : Gh) (hg : g'.γ = g.γ) : VR g' x v := by
  cases x with
  | list own sz xs =>
    cases h with
    | pure _ _ h => exact .pure _ _ (by rw [hg]; exact h)
    | own e _ _ _ h => exact .own _ _ _ _ (by rw [hg]; exact h)
  | tup vs =>
    cases h with
    | pure _ _ h => cases h
    | tup _ ws h => exact .tup _ _ (h.arg_gv hx g' hg)
  | _ => exact h.arg_gv hx g' hg
theorem arg_notOwn {x : AV} (h : x.arg = true) : NotOwn x := by
  intro e sz xs hx; subst hx; simp [AV.arg, AV.pure, AV.pure1] at h

theorem Det.intro {f : Nat} {sc : SCode} {rvs : List RV} {xs : List AV} {r : AV} (hf : chkFn P f xs.length sc rvs = true) (hx : xs.all AV.arg = true) (hr : r.res = true)
    (he : exec P gl D sc ⟨pEnv 0 xs, []⟩ (endQ fun s => retV s.env rvs = some r)) : Det P gl f xs r := by
  intro γ w vs hgam hglob hv
  let g : Gh := ⟨γ, fun b => if b < w.heap.size then .outer else .none, fun _ => none⟩
  have hrel : Rel P gl 0 g (heapSt []) noAct w :=
    ⟨.nil, rfl, rfl, fun t e he => by simp [heapSt, Env.get] at he, fun id ob hob => by simp [heapSt] at hob, hgam, fun b hb => by
      by_cases h : b < w.heap.size
      · exact h
      · simp [g, h] at hb, hglob, fun id b h => by cases h⟩
  have hno : ∀ x ∈ xs, NotOwn x := fun x hx' => arg_notOwn (List.all_eq_true.1 hx x hx')
  refine (body_calls hf hrel (hv.arg_gv hx g rfl) (fun i x v h _ => (hno x (List.mem_of_getElem? h)).ownR) he fun s h => by simp [h]).mono ?_
  rintro e w' ⟨v, r', s', g', a', N', rfl, hr', hr'', hle, hrel', hvr, hown⟩
  rw [hr'] at hr''; simp at hr''; subst hr''
  have hout : ∀ b, b < w.heap.size → g'.Ω b = .outer ∧ w'.heap[b]? = w.heap[b]? ∧ ∀ o, g'.γ b o = γ b o := fun b hb => hle.outer b (by simp [g, hb])
  refine ⟨v, g'.γ, rfl, hle.γ, hle.size, fun b hb => (hout b hb).2, ⟨hle.os, hle.out⟩, hrel'.gam, hvr.res_gv hr _ rfl, ?_⟩
  rcases hown with hn | ⟨t, _, hown⟩
  · exact hn.ownR
  · intro e sz ys hx
    obtain ⟨j, z, us, m1, m2, m3, m4, m5, m6, m7, m8, m9⟩ := hown e sz ys hx
    refine ⟨j, z, us, m1, m2, m3, m4, m5, m6, m7, m8, fun b hb => ⟨?_, (m9 b hb).2⟩⟩
    have q := (m9 b hb).1
    have : ¬ b < w.heap.size := fun h => by rw [(hout b h).1] at q; cases q
    simp [gr, this]

/-- What holds after code, weakened. -/
theorem exec_mono : ∀ (sc : SCode) {s : St} {Q Q' : Ex → St → Prop}, exec P gl D sc s Q → (∀ e s, Q e s → Q' e s) → exec P gl D sc s Q'
  | .skip, _, _, _, h, hq => hq _ _ h
  | .reg _ _, _, _, _, h, hq => runR_mono (fun _ h => hq _ _ h) h
  | .seq x y, _, _, _, h, hq => exec_mono x h fun e s h => by
    cases e with
    | normal => exact exec_mono y h hq
    | exit i => exact hq _ _ h
    | ret => exact hq _ _ h
  | .cond c x y, s, _, _, h, hq => by
    simp only [exec] at h ⊢
    split at h
    · split at h
      · rw [if_pos (by assumption)]; exact exec_mono x h hq
      · rw [if_neg (by assumption)]; exact exec_mono y h hq
    · exact h.elim
  | .block i c, _, _, _, h, hq => exec_mono c h fun e s h => by
    cases e with
    | normal => exact hq _ _ h
    | exit j =>
      simp only at h ⊢
      split at h
      · rw [if_pos (by assumption)]; exact hq _ _ h
      · rw [if_neg (by assumption)]; exact hq _ _ h
    | ret => exact hq _ _ h
  | .loop c, _, _, _, h, hq => fun X hX => h X fun s hs => hX s (exec_mono c hs fun e s h => by
    cases e with
    | normal => exact h
    | exit i => exact hq _ _ h
    | ret => exact hq _ _ h)
  | .exit _, _, _, _, h, hq => hq _ _ h
  | .ret, _, _, _, h, hq => hq _ _ h
  | .asm t c, s, _, _, h, hq => by
    simp only [exec] at h ⊢
    split at h
    · exact fun hl => exec_mono c (h hl) hq
    · exact fun hl => exec_mono c (h hl) hq
    · exact h.elim
  | .drop _ c, _, _, _, h, hq => exec_mono c h hq
  | .kill _ c, _, _, _, h, hq => exec_mono c h hq
  | .frz t e sz c, s, _, _, h, hq => by
    simp only [exec] at h ⊢
    split at h
    · exact exec_mono c h hq
    · exact h.elim
  | .frzb t off e sz c, s, _, _, h, hq => by
    simp only [exec] at h ⊢
    split at h
    · exact exec_mono c h hq
    · exact h.elim
  | .bad, _, _, _, h, _ => h.elim
/-- A loop: one round, then the loop again. -/
theorem exec_loop {c : SCode} {s : St} {Q : Ex → St → Prop} (h : exec P gl D c s fun e s' => match e with | .normal => exec P gl D (.loop c) s' Q | e => Q e s') : exec P gl D (.loop c) s Q := by
  intro X hX
  refine hX s (exec_mono c h fun e s' h => ?_)
  cases e with
  | normal => exact h X hX
  | exit i => exact h
  | ret => exact h
end
end AM
/-! An executable interpreter of the abstract machine, with sets of outcomes; it is sound. -/
namespace AM
open Go

mutual
def AV.beq : AV → AV → Bool
  | .bool a, .bool b => a == b
  | .int k a, .int k' b => decide (k = k') && a == b
  | .str a, .str b => a == b
  | .nilp, .nilp => true
  | .ptr a o, .ptr b o' => a == b && o == o'
  | .cptr a, .cptr b => AV.beqs a b
  | .list e sz a, .list e' sz' b => e == e' && sz == sz' && AV.beqs a b
  | .map a, .map b => a == b
  | .nilm, .nilm => true
  | .fn f a, .fn f' b => f == f' && AV.beqs a b
  | .nilf, .nilf => true
  | .nili, .nili => true
  | .nils a, .nils b => a == b
  | .nilc a, .nilc b => a == b
  | .sl a b c d, .sl a' b' c' d' => a == a' && b == b' && c == c' && d == d'
  | .agg a, .agg b => AV.beqs a b
  | .tup a, .tup b => AV.beqs a b
  | _, _ => false
def AV.beqs : List AV → List AV → Bool
  | [], [] => true
  | x :: r, y :: r' => AV.beq x y && AV.beqs r r'
  | _, _ => false
end
mutual
theorem AV.beq_eq : ∀ (x y : AV), AV.beq x y = true → x = y
  | .bool a, y, h => by cases y <;> simp [AV.beq] at h; rw [h]
  | .int k a, y, h => by cases y <;> simp [AV.beq] at h; rw [h.1, h.2]
  | .str a, y, h => by cases y <;> simp [AV.beq] at h; rw [h]
  | .nilp, y, h => by cases y <;> simp [AV.beq] at h; rfl
  | .ptr a o, y, h => by cases y <;> simp [AV.beq] at h; rw [h.1, h.2]
  | .cptr a, y, h => by cases y <;> simp [AV.beq] at h; rw [AV.beqs_eq a _ h]
  | .list e sz a, y, h => by cases y <;> simp [AV.beq] at h; rw [AV.beqs_eq a _ h.2, h.1.1, h.1.2]
  | .map a, y, h => by cases y <;> simp [AV.beq] at h; rw [h]
  | .nilm, y, h => by cases y <;> simp [AV.beq] at h; rfl
  | .fn f a, y, h => by cases y <;> simp [AV.beq] at h; rw [AV.beqs_eq a _ h.2, h.1]
  | .nilf, y, h => by cases y <;> simp [AV.beq] at h; rfl
  | .nili, y, h => by cases y <;> simp [AV.beq] at h; rfl
  | .nils a, y, h => by cases y <;> simp [AV.beq] at h; rw [h]
  | .nilc a, y, h => by cases y <;> simp [AV.beq] at h; rw [h]
  | .sl a b c d, y, h => by cases y <;> simp [AV.beq] at h; rw [h.1.1.1, h.1.1.2, h.1.2, h.2]
  | .agg a, y, h => by cases y <;> simp [AV.beq] at h; rw [AV.beqs_eq a _ h]
  | .tup a, y, h => by cases y <;> simp [AV.beq] at h; rw [AV.beqs_eq a _ h]
theorem AV.beqs_eq : ∀ (xs ys : List AV), AV.beqs xs ys = true → xs = ys
  | [], ys, h => by cases ys <;> simp [AV.beqs] at h; rfl
  | x :: xs, ys, h => by
    cases ys <;> simp [AV.beqs] at h
    rw [AV.beq_eq x _ h.1, AV.beqs_eq xs _ h.2]
end
def beqKV : List (AV × AV) → List (AV × AV) → Bool
  | [], [] => true
  | (k, v) :: r, (k', v') :: r' => AV.beq k k' && AV.beq v v' && beqKV r r'
  | _, _ => false
theorem beqKV_eq : ∀ (xs ys : List (AV × AV)), beqKV xs ys = true → xs = ys
  | [], ys, h => by cases ys <;> simp [beqKV] at h; rfl
  | (k, v) :: xs, ys, h => by
    cases ys <;> simp [beqKV] at h
    rename_i y ys
    obtain ⟨k', v'⟩ := y
    simp at h
    rw [AV.beq_eq k _ h.1.1, AV.beq_eq v _ h.1.2, beqKV_eq xs _ h.2]
def AObj.beq : AObj → AObj → Bool
  | .cells a, .cells b => AV.beqs a b
  | .buf e a, .buf e' b => e == e' && AV.beqs a b
  | .map n a, .map n' b => n == n' && beqKV a b
  | .iter m s a, .iter m' s' b => m == m' && s == s' && AV.beqs a b
  | .dead, .dead => true
  | _, _ => false
theorem AObj.beq_eq (x y : AObj) (h : AObj.beq x y = true) : x = y := by
  cases x <;> cases y <;> simp [AObj.beq] at h
  · rw [AV.beqs_eq _ _ h]
  · rw [h.1, AV.beqs_eq _ _ h.2]
  · rw [h.1, beqKV_eq _ _ h.2]
  · rw [h.1.1, h.1.2, AV.beqs_eq _ _ h.2]
  · rfl
def heapBeq : List AObj → List AObj → Bool
  | [], [] => true
  | x :: r, y :: r' => x.beq y && heapBeq r r'
  | _, _ => false
theorem heapBeq_eq : ∀ (xs ys : List AObj), heapBeq xs ys = true → xs = ys
  | [], ys, h => by cases ys <;> simp [heapBeq] at h; rfl
  | x :: xs, ys, h => by
    cases ys <;> simp [heapBeq] at h
    rw [AObj.beq_eq x _ h.1, heapBeq_eq xs _ h.2]
abbrev ROut := AV × List AObj
def outBeq (a b : ROut) : Bool := a.1.beq b.1 && heapBeq a.2 b.2
theorem outBeq_eq {a b : ROut} (h : outBeq a b = true) : a = b := by
  simp [outBeq] at h
  exact Prod.ext (AV.beq_eq _ _ h.1) (heapBeq_eq _ _ h.2)
def dedup : List ROut → List ROut
  | [] => []
  | x :: r => let r' := dedup r; if r'.any (outBeq x) then r' else x :: r'
theorem mem_dedup {x : ROut} : ∀ {l : List ROut}, x ∈ l → x ∈ dedup l
  | [], h => by simp at h
  | y :: r, h => by
    simp only [dedup]
    rcases List.mem_cons.1 h with rfl | h
    · split
      · rename_i ha
        rw [List.any_eq_true] at ha
        obtain ⟨z, hz, hxz⟩ := ha
        rw [outBeq_eq hxz]; exact hz
      · simp
    · have := mem_dedup h
      split
      · exact this
      · exact List.mem_cons_of_mem _ this

def bindL {α β : Type} (f : α → Option (List β)) : List α → Option (List β)
  | [] => some []
  | a :: r => match f a with
    | none => none
    | some x => match r with
      | [] => some x
      | _ :: _ => match bindL f r with | none => none | some y => some (x ++ y)
theorem bindL_mem {α β : Type} {f : α → Option (List β)} : ∀ {l : List α} {out : List β}, bindL f l = some out → ∀ a ∈ l, ∃ x, f a = some x ∧ ∀ b ∈ x, b ∈ out
  | [], _, _, a, ha => by simp at ha
  | a :: r, out, h, a', ha => by
    simp only [bindL] at h
    split at h
    · cases h
    · rename_i x hx
      split at h
      · simp at h; subst h
        simp at ha; subst ha
        exact ⟨x, hx, fun b hb => hb⟩
      · split at h
        · cases h
        · rename_i y hy
          simp at h; subst h
          rcases List.mem_cons.1 ha with rfl | ha
          · exact ⟨x, hx, fun b hb => by simp [hb]⟩
          · obtain ⟨z, h1, h2⟩ := bindL_mem hy a' ha
            exact ⟨z, h1, fun b hb => by simp [h2 b hb]⟩

/-- The same, of a list that is not empty. -/
def bindN {α β : Type} (f : α → Option (List β)) : List α → Option (List β)
  | [] => none
  | a :: r => bindL f (a :: r)
theorem bindN_ne {α β : Type} {f : α → Option (List β)} {l : List α} {out : List β} (h : bindN f l = some out) : bindL f l = some out ∧ ∃ a, a ∈ l := by
  cases l with
  | nil => cases h
  | cons a r => exact ⟨h, a, by simp⟩
abbrev Caller := Nat → List AV → List AObj → Option (List ROut)
section
variable (gl : Glob) (call : Caller)
def fin (s : St) (d : Option Nat) (p : ROut) : Option (List St) := (({ s with heap := p.2 } : St).putO d p.1).map fun s => [s]
def allDead : List AObj → Bool
  | [] => true
  | .dead :: r => allDead r
  | _ => false
def isPre : List AObj → List AObj → Bool
  | [], r => allDead r
  | x :: r, y :: r' => x.beq y && isPre r r'
  | _ :: _, [] => false
def finR (s : St) (d : Option Nat) (p : ROut) : Option (List St) := if isPre s.heap p.2 then fin s d p else none
def detOf (f : Nat) (xs : List AV) : Option AV := match call f xs [] with
  | some ((r, _) :: rest) => if r.res && rest.all (fun p => p.1.beq r) then some r else none
  | _ => none
def opC (s : St) : SOp → Option (List St)
  | .callP d f xs => match evOs gl s.env xs with
    | some vs => if (vs.map AV.noOwn).all AV.arg then match detOf call f (vs.map AV.noOwn) with
      | some r => (s.putO d r).map fun s => [s]
      | none => none
      else none
    | none => none
  | .callI d f xs => match evOs gl s.env xs with
    | some vs => (call f (vs.map AV.noOwn) s.heap).bind (bindN (fin s d))
    | none => none
  | .callR d f xs => match evOs gl s.env xs with
    | some vs => (call f (vs.map AV.noOwn) s.heap).bind (bindN (finR s d))
    | none => none
  | .callV d x xs => match evO gl s.env x, evOs gl s.env xs with
    | some (.fn f caps), some vs => (call f (vs.map AV.noOwn ++ caps.map AV.noOwn) s.heap).bind (bindN (fin s d))
    | _, _ => none
  | .callG d f u xs => match Env.get s.env u, evOs gl s.env xs with
    | some (.v (.list (some e) sz ys)), some vs => (call f (.list (some e) sz ys :: vs.map AV.noOwn) s.heap).bind (bindN (fin { s with env := s.env.ins u (.v (.list none sz ys)) } d))
    | some (.v v), some vs => (call f (v.noOwn :: vs.map AV.noOwn) s.heap).bind (bindN (fin s d))
    | _, _ => none
  | .nxt d it => match (evO gl s.env it).bind (cands s.heap) with
    | some (id, m, since, seen, es) => match es with
      | [] => (s.put d (.tup [.bool false])).map fun s => [s]
      | e0 :: es => bindL (fun e => (({ s with heap := s.heap.set id (.iter m since (seen ++ [e.1])) } : St).put d (.tup [.bool true, e.1, e.2.noOwn])).map fun s => [s]) (e0 :: es)
    | none => none
  | o => (ev gl s o).map fun s => [s]
def regC : List It → St → Option (List St)
  | [], s => some [s]
  | it :: r, s => match guardV s.env it.g with
    | some true => match opC gl call s it.o with
      | some [s'] => regC r s'
      | some l => bindL (regC r) l
      | none => none
    | some false => match dstOf it.o with
      | some d => match s.put d (.tup []) with | some s' => regC r s' | none => none
      | none => regC r s
    | none => none
def loopC (body : St → Option (List (Ex × St))) : Nat → St → Option (List (Ex × St))
  | 0, _ => none
  | n + 1, s => match body s with
    | some [(.normal, s')] => loopC body n s'
    | some l => bindL (fun p => match p.1 with | .normal => loopC body n p.2 | e => some [(e, p.2)]) l
    | none => none
def blkE (id : Nat) : Ex × St → Ex × St
  | (.exit i, s) => if i = id then (.normal, s) else (.exit i, s)
  | p => p
def execC (lf : Nat) : SCode → St → Option (List (Ex × St))
  | .skip, s => some [(.normal, s)]
  | .reg its dr, s => (regC gl call its s).map fun l => l.map fun s => (.normal, { s with env := s.env.close dr })
  | .seq a b, s => match execC lf a s with
    | some [(.normal, s')] => execC lf b s'
    | some l => bindL (fun p => match p.1 with | .normal => execC lf b p.2 | e => some [(e, p.2)]) l
    | none => none
  | .cond c a b, s => match evO gl s.env c with
    | some (.bool t) => if t then execC lf a s else execC lf b s
    | _ => none
  | .block id c, s => (execC lf c s).map fun l => l.map (blkE id)
  | .loop c, s => loopC (execC lf c) lf s
  | .exit id, s => some [(.exit id, s)]
  | .ret, s => some [(.ret, s)]
  | .asm t c, s => match Env.get s.env t with
    | some (.v (.list _ _ _)) => execC lf c s
    | some (.v (.str _)) => execC lf c s
    | _ => none
  | .drop ts c, s => execC lf c { s with env := s.env.close ts }
  | .frz t e sz c, s => match frzS s t e sz with | some s => execC lf c s | none => none
  | .frzb t off e sz c, s => match frzbS s t off e sz with | some s => execC lf c s | none => none
  | .kill t c, s => execC lf c (killS s t)
  | .bad, _ => none
def finE (rvs : List RV) : Ex × St → Option (List ROut)
  | (.exit _, _) => none
  | (_, s) => (retV s.env rvs).map fun r => [(r, s.heap)]
end
abbrev Tab := Nat → Option (SCode × List RV × Nat)
section
variable (gl : Glob) (T : Tab) (orc : Caller) (lf : Nat)
def callC : Nat → Caller
  | 0 => fun _ _ _ => none
  | n + 1 => fun f xs H => match orc f xs H with
    | some l => some l
    | none => match T f with
      | some (sc, rvs, k) => if xs.length = k then (match (execC gl (callC n) lf sc ⟨pEnv 0 xs, H⟩).bind (bindL (finE rvs)) with
        | some [p] => some [p]
        | some l => some (dedup l)
        | none => none) else none
      | none => none
end

section
variable {P : Program} {gl : Glob} {D : Dets} {call : Caller}
/-- What is said of calls holds. -/
def CallerOk (P : Program) (gl : Glob) (call : Caller) : Prop := ∀ f xs H outs, call f xs H = some outs → CallT P gl f xs H fun r H' => (r, H') ∈ outs
def TabOk (P : Program) (T : Tab) : Prop := ∀ f sc rvs k, T f = some (sc, rvs, k) → chkFn P f k sc rvs = true

theorem Det.of_callT {f : Nat} {xs : List AV} {r : AV} (h : CallT P gl f xs [] fun r' _ => r' = r) (hx : xs.all AV.arg = true) (hr : r.res = true) : Det P gl f xs r := by
  intro γ w vs hgam hglob hv
  let g : Gh := ⟨γ, fun b => if b < w.heap.size then .outer else .none, fun _ => none⟩
  have hrel : Rel P gl 0 g (heapSt []) noAct w :=
    ⟨.nil, rfl, rfl, fun t e he => by simp [heapSt, Env.get] at he, fun id ob hob => by simp [heapSt] at hob, hgam, fun b hb => by
      by_cases h : b < w.heap.size
      · exact h
      · simp [g, h] at hb, hglob, fun id b h => by cases h⟩
  have hno : ∀ x ∈ xs, NotOwn x := fun x hx' => arg_notOwn (List.all_eq_true.1 hx x hx')
  refine (h.2 g w vs hrel (hv.arg_gv hx g rfl) (fun i x v h _ => (hno x (List.mem_of_getElem? h)).ownR)).mono ?_
  rintro e w' ⟨v, r', H', g', rfl, rfl, hle, hrel', hvr, hown⟩
  have hout : ∀ b, b < w.heap.size → g'.Ω b = .outer ∧ w'.heap[b]? = w.heap[b]? ∧ ∀ o, g'.γ b o = γ b o := fun b hb => hle.outer b (by simp [g, hb])
  refine ⟨v, g'.γ, rfl, hle.γ, hle.size, fun b hb => (hout b hb).2, ⟨hle.os, hle.out⟩, hrel'.gam, hvr.res_gv hr _ rfl, ?_⟩
  intro e sz ys hx
  obtain ⟨j, z, us, m1, m2, m3, m4, m5, m6, m7, m8, m9⟩ := hown e sz ys hx
  refine ⟨j, z, us, m1, m2, m3, m4, m5, m6, m7, m8, fun b hb => ⟨?_, (m9 b hb).2⟩⟩
  have q := (m9 b hb).1
  have : ¬ b < w.heap.size := fun h => by rw [(hout b h).1] at q; cases q
  simp [gr, this]

theorem fin_mem {s : St} {d : Option Nat} {outs : List ROut} {l : List St} (h : bindL (fin s d) outs = some l) {r : AV} {H : List AObj} (hm : (r, H) ∈ outs) : match ({ s with heap := H } : St).putO d r with | some s' => s' ∈ l | none => False := by
  obtain ⟨x, h1, h2⟩ := bindL_mem h _ hm
  simp only [fin, Option.map_eq_some_iff] at h1
  obtain ⟨s', h3, rfl⟩ := h1
  rw [h3]
  exact h2 s' (by simp)
theorem allDead_eq : ∀ {l : List AObj}, allDead l = true → l = List.replicate l.length .dead
  | [], _ => rfl
  | .dead :: r, h => by
    simp only [allDead] at h
    rw [List.length_cons, List.replicate_succ, ← allDead_eq h]
  | .cells _ :: _, h => by simp [allDead] at h
  | .buf _ _ :: _, h => by simp [allDead] at h
  | .map _ _ :: _, h => by simp [allDead] at h
  | .iter _ _ _ :: _, h => by simp [allDead] at h
theorem isPre_eq : ∀ {H H' : List AObj}, isPre H H' = true → ∃ n, H' = H ++ List.replicate n .dead
  | [], H', h => ⟨_, by rw [List.nil_append]; exact allDead_eq h⟩
  | x :: H, [], h => by simp [isPre] at h
  | x :: H, y :: H', h => by
    simp only [isPre, Bool.and_eq_true] at h
    obtain ⟨n, hn⟩ := isPre_eq h.2
    exact ⟨n, by rw [AObj.beq_eq _ _ h.1, hn]; rfl⟩

theorem detOf_sound (hcall : CallerOk P gl call) {f : Nat} {xs : List AV} {r : AV} (ha : xs.all AV.arg = true) (h : detOf call f xs = some r) : Det P gl f xs r := by
  unfold detOf at h
  split at h
  · rename_i r0 H rest hc
    split at h
    · rename_i hr
      simp only [Option.some.injEq] at h; subst h
      simp only [Bool.and_eq_true] at hr
      refine Det.of_callT ((hcall _ _ _ _ hc).mono fun r' H' hm => ?_) ha hr.1
      rcases List.mem_cons.1 hm with hm | hm
      · simp at hm; exact hm.1
      · have := List.all_eq_true.1 hr.2 _ hm
        exact AV.beq_eq _ _ this
    · cases h
  · cases h
theorem opC_sound (hcall : CallerOk P gl call) {s : St} {o : SOp} {l : List St} (h : opC gl call s o = some l) : opX P gl (detOf call) s (fun s' => s' ∈ l) o := by
  have hgen : ∀ o', o' = o → (ev gl s o').map (fun s => [s]) = some l → (match ev gl s o' with | some s' => s' ∈ l | none => False) := by
    rintro _ rfl h
    rw [Option.map_eq_some_iff] at h
    obtain ⟨s', h1, rfl⟩ := h
    rw [h1]; simp
  cases o <;> first
    | exact hgen _ rfl h
    | skip
  case callP d f xs =>
    simp only [opC] at h
    simp only [opX]
    split at h
    · rename_i vs hvs
      simp only [hvs]
      split at h
      · rename_i harg
        split at h
        · rename_i r hr
          rw [Option.map_eq_some_iff] at h
          obtain ⟨s', h1, rfl⟩ := h
          refine ⟨harg, ?_⟩
          rw [hr]
          refine ⟨detOf_sound hcall harg hr, by rw [h1]; simp⟩
        · cases h
      · cases h
    · cases h
  case callI d f xs =>
    simp only [opC] at h
    simp only [opX]
    split at h
    · rename_i vs hvs
      simp only [hvs]
      obtain ⟨outs, h1, h2⟩ := bind_some h
      obtain ⟨h2, ⟨r0, H0⟩, hne⟩ := bindN_ne h2
      exact ⟨(hcall _ _ _ _ h1).mono fun r H hm => fin_mem h2 hm, r0, H0, fin_mem h2 hne⟩
    · cases h
  case callR d f xs =>
    simp only [opC] at h
    simp only [opX]
    split at h
    · rename_i vs hvs
      simp only [hvs]
      obtain ⟨outs, h1, h2⟩ := bind_some h
      obtain ⟨h2, ⟨r0, H0⟩, hne⟩ := bindN_ne h2
      have key : ∀ r H, (r, H) ∈ outs → (∃ n, H = s.heap ++ List.replicate n .dead) ∧ match ({ s with heap := H } : St).putO d r with | some s' => s' ∈ l | none => False := by
        intro r H hm
        obtain ⟨x, h3, h4⟩ := bindL_mem h2 _ hm
        simp only [finR] at h3
        split at h3
        · rename_i hp
          refine ⟨isPre_eq hp, ?_⟩
          simp only [fin, Option.map_eq_some_iff] at h3
          obtain ⟨s', h5, rfl⟩ := h3
          rw [h5]
          exact h4 s' (by simp)
        · cases h3
      exact ⟨(hcall _ _ _ _ h1).mono fun r H hm => key r H hm, r0, H0, key r0 H0 hne⟩
    · cases h
  case callV d x xs =>
    simp only [opC] at h
    simp only [opX]
    split at h
    · rename_i f caps vs hf hvs
      rw [hf, hvs]
      obtain ⟨outs, h1, h2⟩ := bind_some h
      obtain ⟨h2, ⟨r0, H0⟩, hne⟩ := bindN_ne h2
      exact ⟨(hcall _ _ _ _ h1).mono fun r H hm => fin_mem h2 hm, r0, H0, fin_mem h2 hne⟩
    · cases h
  case callG d f u xs =>
    simp only [opC] at h
    simp only [opX]
    split at h
    · rename_i e sz ys vs hu hvs
      simp only [hu, hvs]
      obtain ⟨outs, h1, h2⟩ := bind_some h
      obtain ⟨h2, ⟨r0, H0⟩, hne⟩ := bindN_ne h2
      exact ⟨(hcall _ _ _ _ h1).mono fun r H hm => fin_mem h2 hm, r0, H0, fin_mem h2 hne⟩
    · rename_i v vs hno hu hvs
      obtain ⟨outs, h1, h2⟩ := bind_some h
      split
      · rename_i e sz ys us hu' hvs'
        rw [hu] at hu'; simp at hu'; subst hu'
        exact (hno _ _ _ rfl).elim
      · rename_i v' us' _ hu' hvs'
        rw [hu] at hu'; simp at hu'; subst hu'
        rw [hvs] at hvs'; simp at hvs'; subst hvs'
        obtain ⟨h2, ⟨r0, H0⟩, hne⟩ := bindN_ne h2
        exact ⟨(hcall _ _ _ _ h1).mono fun r H hm => fin_mem h2 hm, r0, H0, fin_mem h2 hne⟩
      · rename_i hx
        exact hx _ _ hu hvs
    · cases h
  case nxt d it =>
    simp only [opC] at h
    simp only [opX]
    split at h
    · rename_i id m since seen es hcd
      simp only [hcd]
      cases es with
      | nil =>
        simp only at h ⊢
        rw [Option.map_eq_some_iff] at h
        obtain ⟨s', h1, rfl⟩ := h
        rw [h1]; simp
      | cons e0 es =>
        simp only at h ⊢
        intro e he
        obtain ⟨x, h1, h2⟩ := bindL_mem h e he
        rw [Option.map_eq_some_iff] at h1
        obtain ⟨s', h3, rfl⟩ := h1
        rw [h3]
        exact h2 s' (by simp)
    · cases h

theorem regC_sound (hcall : CallerOk P gl call) : ∀ {its : List It} {s : St} {l : List St}, regC gl call its s = some l → runR P gl (detOf call) its s (fun s' => s' ∈ l)
  | [], s, l, h => by simp [regC] at h; subst h; simp [runR]
  | it :: r, s, l, h => by
    simp only [regC] at h
    simp only [runR]
    split at h
    · rename_i hg
      rw [hg]
      simp only
      split at h
      · rename_i s' ho
        refine opX_mono (opC_sound hcall ho) fun s1 hs1 => ?_
        simp at hs1; subst hs1
        exact regC_sound hcall h
      · rename_i l' _ ho
        refine opX_mono (opC_sound hcall ho) fun s1 hs1 => ?_
        obtain ⟨x, h1, h2⟩ := bindL_mem h s1 hs1
        exact runR_mono (fun s' hs' => h2 s' hs') (regC_sound hcall h1)
      · cases h
    · rename_i hg
      rw [hg]
      simp only
      split at h
      · rename_i d hd
        simp only [hd]
        split at h
        · rename_i s' hs
          simp only [hs]
          exact regC_sound hcall h
        · cases h
      · rename_i hd
        simp only [hd]
        exact regC_sound hcall h
    · cases h

theorem execC_sound (hcall : CallerOk P gl call) (lf : Nat) : ∀ (sc : SCode) {s : St} {l : List (Ex × St)}, execC gl call lf sc s = some l → exec P gl (detOf call) sc s fun e s' => (e, s') ∈ l := by
  intro sc
  induction sc with
  | skip => intro s l h; simp [execC] at h; subst h; simp [exec]
  | exit i => intro s l h; simp [execC] at h; subst h; simp [exec]
  | ret => intro s l h; simp [execC] at h; subst h; simp [exec]
  | bad => intro s l h; simp [execC] at h
  | reg its dr =>
    intro s l h
    simp only [execC, Option.map_eq_some_iff] at h
    obtain ⟨l', h1, rfl⟩ := h
    simp only [exec]
    exact runR_mono (fun s' hs' => List.mem_map.2 ⟨s', hs', rfl⟩) (regC_sound hcall h1)
  | seq x y ihx ihy =>
    intro s l h
    simp only [execC] at h
    simp only [exec]
    split at h
    · rename_i s' hx
      refine exec_mono x (ihx hx) fun e s1 hm => ?_
      simp at hm
      obtain ⟨rfl, rfl⟩ := hm
      exact ihy h
    · rename_i l' _ hx
      refine exec_mono x (ihx hx) fun e s1 hm => ?_
      obtain ⟨z, h1, h2⟩ := bindL_mem h _ hm
      cases e with
      | normal => exact exec_mono y (ihy h1) fun e s2 hm2 => h2 _ hm2
      | exit i => simp at h1; subst h1; exact h2 _ (by simp)
      | ret => simp at h1; subst h1; exact h2 _ (by simp)
    · cases h
  | cond c x y ihx ihy =>
    intro s l h
    simp only [execC] at h
    simp only [exec]
    split at h
    · rename_i t ht
      simp only [ht]
      cases t with
      | true => exact ihx h
      | false => exact ihy h
    · cases h
  | block i x ih =>
    intro s l h
    simp only [execC, Option.map_eq_some_iff] at h
    obtain ⟨l', h1, rfl⟩ := h
    simp only [exec]
    refine exec_mono x (ih h1) fun e s1 hm => ?_
    have hmem : blkE i (e, s1) ∈ l'.map (blkE i) := List.mem_map.2 ⟨_, hm, rfl⟩
    cases e with
    | normal => exact hmem
    | ret => exact hmem
    | exit j =>
      simp only [blkE] at hmem
      simp only
      by_cases hj : j = i
      · rw [if_pos hj] at hmem ⊢; exact hmem
      · rw [if_neg hj] at hmem ⊢; exact hmem
  | loop x ih =>
    intro s l h
    simp only [execC] at h
    have key : ∀ (n : Nat) (s : St) (l : List (Ex × St)), loopC (execC gl call lf x) n s = some l → exec P gl (detOf call) (.loop x) s fun e s' => (e, s') ∈ l := by
      intro n
      induction n with
      | zero => intro s l h; simp [loopC] at h
      | succ n ihn =>
        intro s l h
        simp only [loopC] at h
        refine exec_loop ?_
        split at h
        · rename_i s' hx
          refine exec_mono x (ih hx) fun e s1 hm => ?_
          simp at hm
          obtain ⟨rfl, rfl⟩ := hm
          exact ihn _ _ h
        · rename_i l' _ hx
          refine exec_mono x (ih hx) fun e s1 hm => ?_
          obtain ⟨z, h1, h2⟩ := bindL_mem h _ hm
          cases e with
          | normal => exact exec_mono (.loop x) (ihn _ _ h1) fun e s2 hm2 => h2 _ hm2
          | exit i => simp at h1; subst h1; exact h2 _ (by simp)
          | ret => simp at h1; subst h1; exact h2 _ (by simp)
        · cases h
    exact key lf s l h
  | asm t x ih =>
    intro s l h
    simp only [execC] at h
    simp only [exec]
    split at h
    · rename_i ht; simp only [ht]; exact fun _ => ih h
    · rename_i ht; simp only [ht]; exact fun _ => ih h
    · cases h
  | drop ts x ih => intro s l h; exact ih h
  | frz t e sz x ih =>
    intro s l h
    simp only [execC] at h
    simp only [exec]
    split at h
    · rename_i s' hs; simp only [hs]; exact ih h
    · cases h
  | frzb t off e sz x ih =>
    intro s l h
    simp only [execC] at h
    simp only [exec]
    split at h
    · rename_i s' hs; simp only [hs]; exact ih h
    · cases h
  | kill t x ih => intro s l h; exact ih h

theorem callC_sound {T : Tab} {orc : Caller} {lf : Nat} (hT : TabOk P T) (ho : CallerOk P gl orc) : ∀ n, CallerOk P gl (callC gl T orc lf n)
  | 0 => fun f xs H outs h => by simp [callC] at h
  | n + 1 => fun f xs H outs h => by
    simp only [callC] at h
    split at h
    · rename_i l hl
      simp at h; subst h
      exact ho _ _ _ _ hl
    · split at h
      · rename_i sc rvs k hTf
        split at h
        · rename_i hk
          subst hk
          have hf := hT _ _ _ _ hTf
          have key : ∀ l, (execC gl (callC gl T orc lf n) lf sc ⟨pEnv 0 xs, H⟩).bind (bindL (finE rvs)) = some l → CallT P gl f xs H fun r H' => (r, H') ∈ l := by
            intro l hl
            obtain ⟨ends, h1, h2⟩ := bind_some hl
            refine CallT.intro hf (exec_mono sc (execC_sound (callC_sound hT ho n) lf sc h1) fun e s hm => ?_)
            obtain ⟨z, h3, h4⟩ := bindL_mem h2 _ hm
            cases e with
            | exit i => simp [finE] at h3
            | normal =>
              simp only [finE, Option.map_eq_some_iff] at h3
              obtain ⟨r, h5, rfl⟩ := h3
              exact ⟨r, h5, h4 _ (by simp)⟩
            | ret =>
              simp only [finE, Option.map_eq_some_iff] at h3
              obtain ⟨r, h5, rfl⟩ := h3
              exact ⟨r, h5, h4 _ (by simp)⟩
          split at h
          · rename_i p hp
            simp at h; subst h
            exact key _ hp
          · rename_i l _ hl
            simp at h; subst h
            exact (key _ hl).mono fun r H hm => mem_dedup hm
          · cases h
        · cases h
      · cases h
end
end AM
/-! Steps of the abstract machine within a fence; the iterator over a map's keys. Conditions: the map's values are bools. -/
namespace AM
open Go
section
variable {P : Program} {gl : Glob} {N : Nat} {g g' : Gh} {s s' : St} {a : Act} {w w' : World} {F : Fence} {n : Nat} {Q : Exit → Act → World → Prop} {ops : Array Oper} {rest : List Oper} {o : Oper}

def evs (gl : Glob) : List SOp → St → Option St
  | [], s => some s
  | o :: r, s => (ev gl s o).bind (evs gl r)
def plainOp (o : Oper) : Bool := o.guard.isNone && (match o.op with | .defer _ => false | _ => true)
def chkList (P : Program) (N : Nat) : List Oper → List SOp → Bool
  | [], [] => true
  | o :: os, so :: sos => plainOp o && chkOp P N o so && chkList P N os sos
  | _, _ => false
/-- What no operation of a list writes stays. -/
def Stays (os : List Oper) (a a' : Act) : Prop := ∀ t, (∀ o ∈ os, o.dst ≠ some t) → a'.tmps[t]? = a.tmps[t]?

theorem wanted_plain {ys : Nat → Option Bool} (h : plainOp o = true) : Region.wanted o ys = true := by
  simp only [plainOp, Bool.and_eq_true, Option.isNone_iff_eq_none] at h
  simp [Region.wanted, h.1]
theorem not_defer (h : plainOp o = true) : ∀ c, o.op ≠ .defer c := by
  intro c hc
  simp only [plainOp, Bool.and_eq_true, hc] at h
  cases h.2
theorem put_stays (v : Value) (t : Nat) (h : o.dst ≠ some t) : (a.put o.dst v).tmps[t]? = a.tmps[t]? := by
  cases ho : o.dst with
  | none => rfl
  | some d =>
    simp only [Act.put]
    rw [Array.getElem?_setIfInBounds_ne (fun e => h (by rw [ho, e]))]

theorem step_in (hF : ∀ f, F.fn f) (hp : plainOp o = true) (h : Sim1 P gl N o g a w s')
    (K : ∀ v w' g', GLe g w g' w' → Rel P gl N g' s' (a.put o.dst v) w' → wpListIn F n P ops Q rest (a.put o.dst v) w') : wpListIn F n P ops Q (o :: rest) a w := by
  obtain ⟨v, w', g', hr, h1, h2⟩ := h
  unfold wpListIn
  rw [if_pos (wanted_plain hp)]
  refine ⟨fun f _ => hF f, ?_⟩
  rw [Oper.semAt_eq _ _ _ (not_defer hp)]
  rcases hr with hr | ⟨hr, rfl⟩
  · rw [hr]; exact K v w' g' h1 h2
  · rw [hr]; exact K _ w' g' h1 h2
theorem evs_in (hF : ∀ f, F.fn f) : ∀ (os : List Oper) (sos : List SOp) {g : Gh} {s : St} {a : Act} {w : World}, chkList P N os sos = true → Rel P gl N g s a w → evs gl sos s = some s' →
    (∀ g' a' w', GLe g w g' w' → Rel P gl N g' s' a' w' → Stays os a a' → wpListIn F n P ops Q rest a' w') → wpListIn F n P ops Q (os ++ rest) a w
  | [], [], g, s, a, w, _, h, he, K => by
    simp only [evs, Option.some.injEq] at he; subst he
    exact K g a w (GLe.refl _ _) h (fun _ _ => rfl)
  | [], _ :: _, _, _, _, _, hc, _, _, _ => by simp [chkList] at hc
  | _ :: _, [], _, _, _, _, hc, _, _, _ => by simp [chkList] at hc
  | o :: os, so :: sos, g, s, a, w, hc, h, he, K => by
    simp only [chkList, Bool.and_eq_true] at hc
    obtain ⟨⟨hp, ho⟩, hr⟩ := hc
    simp only [evs] at he
    obtain ⟨s1, h1, h2⟩ := bind_some he
    refine step_in hF hp (ev_sim h ho h1) fun v w' g' q1 q2 => ?_
    refine evs_in hF os sos hr q2 h2 fun g'' a'' w'' r1 r2 r3 => K g'' a'' w'' (q1.trans r1) r2 fun t ht => ?_
    rw [r3 t (fun o' ho' => ht o' (by simp [ho'])), put_stays v t (ht o (by simp))]

/-! The map and its iterator, alone. -/
def glNo : Glob := fun _ => none
def gm (bm bi : Nat) : Gh := ⟨fun _ _ => none, fun b => if b = bm then .ob 0 else if b = bi then .ob 1 else .none, fun id => if id = 0 then some bm else if id = 1 then some bi else none⟩
def isB : AV → Bool | .bool _ => true | _ => false

theorem VR.bool_any {x : AV} {v : Value} (hx : isB x = true) (h : VR g x v) (g' : Gh) : VR g' x v := by
  cases x <;> simp [isB] at hx
  have := h.bool_inv; subst this; exact .pure _ _ (.bool _)
theorem notOwn_isB {x : AV} (hx : isB x = true) : NotOwn x := by
  cases x <;> simp [isB] at hx
  exact notOwn_bool _
theorem MapR.to {id id' b m : Nat} {es : List (AV × AV)} (h : MapR P g w id b m es) (hv : ∀ e ∈ es, isB e.2 = true) (hΩ : g'.Ω b = .ob id') : MapR P g' w id' b m es := by
  obtain ⟨arr, p1, p2, ⟨es', q1, q2, q3⟩, p4, p5, p6, p7⟩ := h
  refine ⟨arr, p1, hΩ, ⟨es', q1, q2, fun i e m he hm => ?_⟩, p4, p5, p6, p7⟩
  obtain ⟨r1, r2, r3, r4⟩ := q3 i e m he hm
  have hb := hv e (q1.mem_iff.1 (List.mem_of_getElem? he))
  exact ⟨.pure _ _ (VR.key1 r2 r1), r2, r3.bool_any hb g', (notOwn_isB hb).ownR⟩

def gm1 (bm : Nat) : Gh := ⟨fun _ _ => none, fun b => if b = bm then .ob 0 else .none, fun id => if id = 0 then some bm else none⟩
/-- The relation for a map alone. -/
theorem rel_map {id b m : Nat} {es : List (AV × AV)} (h : MapR P g w id b m es) (hv : ∀ e ∈ es, isB e.2 = true) (ha : a.tmps.size = N) (hd : a.defers = []) {t : Nat} (ht : a.tmps[t]? = some (.map (some b))) :
    Rel P glNo N (gm1 b) ⟨[(t, .v (.map 0))], [.map m es]⟩ a w := by
  have hb : b < w.heap.size := by obtain ⟨arr, p1, _⟩ := h; exact (Array.getElem?_eq_some_iff.1 p1).1
  refine ⟨by simp, ha, hd, fun u e he => ?_, fun i ob ho => ?_, (fun _ _ _ h => by cases h), fun k hk => ?_, (fun _ _ h => by cases h), fun i k hk => ?_⟩
  · simp only [Env.get] at he
    split at he
    · rename_i hu; subst hu; simp at he; subst he
      exact ⟨_, ht, .map 0 b (by simp [gm1]), .of_ne (by simp)⟩
    · cases he
  · cases i with
    | zero => simp at ho; subst ho; exact ⟨b, by simp [gm1], h.to hv (by simp [gm1])⟩
    | succ i => simp at ho
  · simp only [gm1] at hk
    split at hk
    · rename_i e; subst e; exact hb
    · exact absurd rfl hk
  · simp only [gm1] at hk
    split at hk
    · rename_i e; subst e; simp
    · cases hk

/-- A map and an iterator over it. -/
structure Mini (P : Program) (w : World) (bm bi m : Nat) (es : List (AV × AV)) (seen : List AV) : Prop where
  ne : bi ≠ bm
  mp : MapR P (gm bm bi) w 0 bm m es
  it : ∃ o, w.heap[bi]? = some o ∧ IterR (gm bm bi) w m seen (some 0) o
theorem Mini.of {bm bi m : Nat} {es : List (AV × AV)} {seen : List AV} (h : Rel P gl N g s a w) (hv : ∀ e ∈ es, isB e.2 = true) (h0 : s.heap[0]? = some (.map m es)) (h1 : s.heap[1]? = some (.iter (some 0) m seen))
    (hb : g.ρ 0 = some bm) (hi : g.ρ 1 = some bi) : Mini P w bm bi m es seen := by
  obtain ⟨b, p1, p2⟩ := h.heap 0 _ h0
  rw [hb] at p1; simp at p1; subst p1
  obtain ⟨b', o, q1, q2, q3, q4⟩ := h.heap 1 _ h1
  rw [hi] at q1; simp at q1; subst q1
  have hne : bi ≠ bm := by
    rintro rfl
    obtain ⟨arr, r1, _⟩ := p2
    rw [r1] at q2; simp at q2; subst q2
    simp [IterR] at q4
  refine ⟨hne, p2.to hv (by simp [gm]), o, q2, ?_⟩
  cases o <;> simp only [IterR] at q4
  rename_i mp s0 ss last
  cases mp with
  | none => exact q4.elim
  | some b2 =>
    obtain ⟨c1, c2, c3, c4, c5, c6⟩ := q4
    rw [hb] at c1; simp at c1; subst c1
    exact ⟨by simp [gm], by simp [gm], c3, c4, c5, c6⟩
theorem Mini.keeps {bm bi m : Nat} {es : List (AV × AV)} {seen : List AV} (h : Mini P w bm bi m es seen) (hv : ∀ e ∈ es, isB e.2 = true) (hk : KeepsWalks w w') : Mini P w' bm bi m es seen := by
  obtain ⟨hne, hm, o, ho, hit⟩ := h
  have hm' : w'.heap[bm]? = w.heap[bm]? := by obtain ⟨arr, p1, _⟩ := hm; rw [p1]; exact hk.same _ _ p1 rfl
  cases o <;> simp only [IterR] at hit
  rename_i mp s0 ss last
  have hi' : w'.heap[bi]? = w.heap[bi]? := by rw [ho]; exact hk.same _ _ ho rfl
  cases mp with
  | none => exact hit.elim
  | some b2 =>
    obtain ⟨c1, c2, c3, c4, c5, arr, k, c6, c7⟩ := hit
    have e2 : b2 = bm := by simp [gm] at c1; exact c1.symm
    subst e2
    refine ⟨hne, ?_, _, hi'.trans ho, c1, c2, c3, c4, c5.kept hm', arr, k, hm'.trans c6, c7⟩
    obtain ⟨arr, p1, p2, ⟨es', q1, q2, q3⟩, p4, p5, p6, p7⟩ := hm
    refine ⟨arr, hm'.trans p1, p2, ⟨es', q1, q2, fun i e m he hm => ?_⟩, p4, p5, p6, p7⟩
    obtain ⟨r1, r2, r3, r4⟩ := q3 i e m he hm
    exact ⟨r1, r2, r3, (notOwn_isB (hv e (q1.mem_iff.1 (List.mem_of_getElem? he)))).ownR⟩
theorem Mini.rel {bm bi m : Nat} {es : List (AV × AV)} {seen : List AV} (h : Mini P w bm bi m es seen) (ha : a.tmps.size = N) (hd : a.defers = []) {t : Nat} (ht : a.tmps[t]? = some (ptrTo bi 0)) :
    Rel P glNo N (gm bm bi) ⟨[(t, .v (.ptr 1 0))], [.map m es, .iter (some 0) m seen]⟩ a w := by
  obtain ⟨hne, hm, o, ho, hit⟩ := h
  have hb : bm < w.heap.size := by obtain ⟨arr, p1, _⟩ := hm; exact (Array.getElem?_eq_some_iff.1 p1).1
  have hi : bi < w.heap.size := (Array.getElem?_eq_some_iff.1 ho).1
  refine ⟨by simp, ha, hd, fun u e he => ?_, fun i ob hob => ?_, (fun _ _ _ h => by cases h), fun k hk => ?_, (fun _ _ h => by cases h), fun i k hk => ?_⟩
  · simp only [Env.get] at he
    split at he
    · rename_i hu; subst hu; simp at he; subst he
      exact ⟨_, ht, .ptr 1 0 bi (by simp [gm]), .of_ne (by simp)⟩
    · cases he
  · match i, hob with
    | 0, hob => simp at hob; subst hob; exact ⟨bm, by simp [gm], hm⟩
    | 1, hob => simp at hob; subst hob; exact ⟨bi, o, by simp [gm], ho, by simp [gm, hne], hit⟩
    | i + 2, hob => simp at hob
  · simp only [gm] at hk
    split at hk
    · rename_i e; subst e; exact hb
    · split at hk
      · rename_i e; subst e; exact hi
      · exact absurd rfl hk
  · simp only [gm] at hk
    split at hk
    · rename_i e; subst e; simp
    · split at hk
      · rename_i e; subst e; simp
      · cases hk
/-- How many keys have come. -/
def seenOf (w : World) (bi : Nat) : Nat := match w.heap[bi]? with | some (.mapIter _ _ ss _) => ss.size | _ => 0
theorem Mini.seen_eq {bm bi m : Nat} {es : List (AV × AV)} {seen : List AV} (h : Mini P w bm bi m es seen) : seenOf w bi = seen.length := by
  obtain ⟨hne, hm, o, ho, hit⟩ := h
  cases o <;> simp only [IterR] at hit
  rename_i mp s0 ss last
  cases mp with
  | none => exact hit.elim
  | some b2 =>
    obtain ⟨c1, c2, c3, c4, ⟨L, l1, l2, l3, _⟩, _⟩ := hit
    simp [seenOf, ho, l3]

/-! The code of the iterator of maps.Keys. -/
def isMove0 : Op → Bool | .move (.tmp t) => t == 0 | _ => false
def isYield : Op → Bool
  | .call c => (match c.callee with | .value (.tmp t) => t == 10 | _ => false) && (match c.args.toList with | [.tmp t] => t == 11 | _ => false)
  | _ => false
def chkO0 (P : Program) (N : Nat) : List Oper → Bool
  | [x0, x1] => plainOp x0 && chkLd P N x0 4 (.t 1) 1 false && plainOp x1 && chkOp P N x1 (.rng 5 (.t 4))
  | _ => false
def chkO1 (P : Program) (N : Nat) : List Oper → Bool
  | [x2, x3] => plainOp x2 && chkNxt N x2 6 (.t 5) && plainOp x3 && chkOp P N x3 (.ext 7 6 0)
  | _ => false
def chkO3 (P : Program) (N : Nat) (ldk : SOp) : List Oper → Bool
  | [y0, y1, y2, y3] => plainOp y0 && dstIs N y0 10 && isMove0 y0.op && plainOp y1 && chkOp P N y1 ldk && plainOp y2 && dstIs N y2 12 && isYield y2.op && plainOp y3 && chkOp P N y3 (.not_ 13 (.t 12))
  | _ => false
def noDst (t : Nat) (l : List Oper) : Bool := l.all fun o => o.dst != some t
def chkKeysC (P : Program) (N : Nat) (pre : List SOp) (ldk : SOp) : Code → Bool
  | .seq (.region _ o0 false) (.block b0 (.loop (.seq (.region _ o1 false) (.seq (.cond (.tmp t7) .skip (.exit b0')) (.block _ (.seq (.region _ o2 false) (.seq (.region _ o3 false) (.cond (.tmp t13) .ret .skip)))))))) =>
    b0' == b0 && t7 == 7 && t13 == 13 && decide (13 < N) && chkO0 P N o0.toList && chkO1 P N o1.toList && chkList P N o2.toList ([.entr 8 (.t 5), .ext 9 8 0] ++ pre) && chkO3 P N ldk o3.toList &&
      noDst 0 o0.toList && noDst 0 o1.toList && noDst 0 o2.toList && noDst 0 o3.toList && noDst 5 o1.toList && noDst 5 o2.toList && noDst 5 o3.toList && noDst 10 ((o3.toList.drop 1).take 1)
  | _ => false
theorem run_yieldOp {l : Nat} {x : Value} {r : Next} {w' : World} (ho : isYield o.op = true) (h0 : a.tmps[10]? = some (.func (.yield l) #[] #[])) (h1 : a.tmps[11]? = some x)
    (hr : (Instr.yield l #[x]).run P w = .ok r w') : (execOp a.eval o).run P w = .ok r w' := by
  unfold isYield at ho
  split at ho
  · rename_i c hop
    simp only [Bool.and_eq_true] at ho
    obtain ⟨h2, h3⟩ := ho
    split at h2
    · rename_i t hcal
      split at h3
      · rename_i u hargs
        simp only [beq_iff_eq] at h2 h3
        subst h2 h3
        have hga : a.eval (.tmp 10) = .func (.yield l) #[] #[] := by simp [Act.eval, Array.getD_eq_getD_getElem?, h0]
        have hgb : c.args.map a.eval = #[x] := by
          apply Array.ext'
          simp [hargs, Act.eval, Array.getD_eq_getD_getElem?, h1]
        simp only [execOp, hop, resolve, hcal, hga, hgb, Deferred.ofValue, Sem.run_bind, Sem.run_pure, Result.andThen_ok, invoke]
        simpa using hr
      · cases h3
    · cases h2
  · cases ho
theorem run_move0 {v : Value} (ho : isMove0 o.op = true) (h0 : a.tmps[0]? = some v) : (execOp a.eval o).run P w = .ok (.value v) w := by
  unfold isMove0 at ho
  split at ho
  · rename_i t hop
    simp only [beq_iff_eq] at ho; subst ho
    simp [execOp, hop, Act.eval, Array.getD_eq_getD_getElem?, h0]
  · cases ho
end
end AM
/-! The iterator of maps.Keys gives a map's keys, each once, in some order. Conditions: the map's values are bools. -/
namespace AM
open Go
section
variable {P : Program} {gl : Glob} {N : Nat} {g g' : Gh} {s s' : St} {a : Act} {w w' : World} {F : Fence} {n : Nat} {Q : Exit → Act → World → Prop} {ops : Array Oper} {rest : List Oper} {o : Oper}

def g0 : Gh := ⟨fun _ _ => none, fun _ => .none, fun _ => none⟩
/-- All that lies is outside. -/
def gA (w : World) : Gh := ⟨fun _ _ => none, fun b => if b < w.heap.size then .outer else .none, fun _ => none⟩
theorem grown_of (h : GLe (gA w) w g' w') : w.grownBy w' none :=
  ⟨congrArg Prod.fst h.os, congrArg Prod.snd h.os, h.out, h.size, fun k hk _ => (h.outer k (by simp [gA, hk])).2.1⟩
/-- The relation over data alone: some temporaries. -/
theorem rel_env (ha : a.tmps.size = N) (hd : a.defers = []) {e : List (Nat × AV)} (hs : e.Pairwise fun p q => p.1 < q.1) (he : ∀ p ∈ e, ∃ v, a.tmps[p.1]? = some v ∧ VR (gA w) p.2 v ∧ NotOwn p.2) :
    Rel P glNo N (gA w) ⟨e.map fun p => (p.1, .v p.2), []⟩ a w := by
  refine ⟨by rw [List.pairwise_map]; exact hs, ha, hd, fun t x hx => ?_, fun i ob ho => by simp at ho, (fun _ _ _ h => by cases h), fun b hb => ?_, (fun _ _ h => by cases h), (fun _ _ h => by cases h)⟩
  · have := Env.mem_of_get hx
    obtain ⟨p, hp, hpe⟩ := List.mem_map.1 this
    simp only [Prod.mk.injEq] at hpe
    obtain ⟨rfl, rfl⟩ := hpe
    obtain ⟨v, h1, h2, h3⟩ := he p hp
    exact ⟨v, h1, h2, h3.ownR⟩
  · by_cases h : b < w.heap.size
    · exact h
    · simp [gA, h] at hb

/-- What an element of the map's key is between the entry and the call: the key again. -/
def PreOk (pre : List SOp) (ldk : SOp) (k : AV) : Prop :=
  ∃ s2, evs glNo pre ⟨[(9, .v k)], []⟩ = some s2 ∧ okPut s2.env 10 = true ∧ ∃ s3, ev glNo { s2 with env := s2.env.del 10 } ldk = some s3 ∧ s3.env.get 11 = some (.v k)
theorem preOk_str (s : List UInt8) : PreOk [.mv 3 (.t 9)] (.mv 11 (.t 3)) (.str s) := ⟨_, rfl, rfl, _, rfl, rfl⟩
theorem preOk_agg (z cs : List AV) (hz : z.length = 3) (hc : cs.length = 3) (h : ∀ c ∈ cs, (match c with | .str _ | .int _ _ | .bool _ => true | _ => false) = true) : PreOk [.alloc 3 z, .st 3 (.t 3) (.t 9)] (.ld 11 (.t 3) 3 true) (.agg cs) := by
  match z, cs, hz, hc with
  | [z0, z1, z2], [c0, c1, c2], _, _ =>
    have hn : ∀ c ∈ [c0, c1, c2], c.one = true ∧ c.noOwn = c := fun c hc => by
      have := h c hc
      cases c <;> simp at this <;> exact ⟨rfl, rfl⟩
    obtain ⟨a0, b0⟩ := hn c0 (by simp)
    obtain ⟨a1, b1⟩ := hn c1 (by simp)
    obtain ⟨a2, b2⟩ := hn c2 (by simp)
    refine ⟨⟨[(3, .b [c0, c1, c2]), (9, .v (.agg [c0, c1, c2]))], []⟩, ?_, rfl, ⟨[(3, .b [c0, c1, c2]), (9, .v (.agg [c0, c1, c2])), (11, .v (.agg [c0, c1, c2]))], []⟩, ?_, rfl⟩
    · simp [evs, ev, St.putB, hasA, isA, Env.ins, adr, Env.get, evO, AV.cells, a0, a1, a2, b0, b1, b2, wrAt, setCells]
    · simp [ev, adr, Env.get, Env.del, rdAt, b0, b1, b2, St.put, okPut, Env.ins]

theorem keyNe {x y : AV} (hx : key1 x = true) (h : keyEq x y = false) : x ≠ y := fun e => by
  subst e; rw [keyEq_self hx] at h; cases h
theorem key1_notOwn {x : AV} (h : key1 x = true) : NotOwn x := by
  cases x <;> simp only [key1, Bool.false_eq_true] at h <;> exact fun _ _ _ h => by simp at h

/-- Between two rounds. -/
structure KAt (P : Program) (N l bm bi m : Nat) (es : List (AV × AV)) (J : List Value → World → Prop) (a : Act) (w : World) (seen : List AV) (xs : List Value) : Prop where
  size : a.tmps.size = N
  defers : a.defers = []
  yv : a.tmps[0]? = some (.func (.yield l) #[] #[])
  it : a.tmps[5]? = some (ptrTo bi 0)
  mini : Mini P w bm bi m es seen
  vals : VRs g0 seen xs
  nodup : seen.Nodup
  mem : ∀ k ∈ seen, k ∈ es.map (·.1)
  j : J xs w
theorem nodup_keys {b m id : Nat} {es : List (AV × AV)} (h : MapR P g w id b m es) : (es.map (·.1)).Nodup ∧ ∀ e ∈ es, key1 e.1 = true := by
  obtain ⟨arr, p1, p2, ⟨es', q1, q2, q3⟩, p4, p5, p6, p7⟩ := h
  have hk : ∀ e ∈ es, key1 e.1 = true := fun e he => by
    obtain ⟨i, hi, hie⟩ := List.getElem_of_mem (q1.mem_iff.2 he)
    exact (q3 i e _ (by rw [← hie]; exact List.getElem?_eq_getElem hi) (List.getElem?_eq_getElem (by omega))).2.1
  refine ⟨?_, hk⟩
  rw [List.Nodup, List.pairwise_map]
  exact p6.imp_of_mem fun ha hb h => keyNe (hk _ ha) h
theorem VRs.len {xs : List AV} {vs : List Value} (h : VRs g xs vs) : vs.length = xs.length := h.get.1
theorem mini_walk {bm bi m : Nat} {es : List (AV × AV)} {seen : List AV} (h : Mini P w bm bi m es seen) : ∃ o : Obj, w.heap[bi]? = some o ∧ o.isWalk = true := by
  obtain ⟨hne, hm, o, ho, hit⟩ := h
  cases o <;> simp only [IterR] at hit
  exact ⟨_, ho, rfl⟩
theorem mini_grown {bm bi m : Nat} {es : List (AV × AV)} {seen : List AV} (h : Mini P w bm bi m es seen) (hv : ∀ e ∈ es, isB e.2 = true) (hg : w.grownBy w' none) : Mini P w' bm bi m es seen :=
  h.keeps hv ⟨hg.size, fun k o hk _ => (hg.block k (Array.getElem?_eq_some_iff.1 hk).1 (by simp)).trans hk⟩

section
variable {l bm bi m : Nat} {es : List (AV × AV)} {J Jx : List Value → World → Prop} {pre : List SOp} {ldk : SOp} {seen : List AV} {xs : List Value} {i1 i2 i3 b0 b1 B : Nat} {o1 o2 o3 : Array Oper} {x2 x3 y0 y1 y2 y3 z0 z1 : Oper} {zs : List Oper}

theorem mapGet_ex {k : AV} {es : List (AV × AV)} (hk : key1 k = true) : ∀ {e}, e ∈ es → e.1 = k → ∃ v, mapGet es k = some v := by
  induction es with
  | nil => intro e h; cases h
  | cons p r ih =>
    intro e h he
    obtain ⟨k', u⟩ := p
    simp only [mapGet]
    by_cases hkk : keyEq k k' = true
    · exact ⟨u, by simp [hkk]⟩
    · rcases List.mem_cons.1 h with rfl | h
      · simp only at he; subst he; exact absurd (keyEq_self hk) hkk
      · obtain ⟨v, hv⟩ := ih h he
        exact ⟨v, by simp [hkk, hv]⟩
/-- One round of the iterator. -/
theorem keys_round (hF : ∀ f, F.fn f) (hn : F.depth.isSome = true → 1 ≤ n) (hv : ∀ e ∈ es, isB e.2 = true) (hk : ∀ e ∈ es, PreOk pre ldk e.1) (hN : 13 < N) (hB : B ≤ bi)
    (ho1 : o1.toList = [x2, x3]) (ho2 : o2.toList = z0 :: z1 :: zs) (ho3 : o3.toList = [y0, y1, y2, y3])
    (c1 : chkO1 P N [x2, x3] = true) (c2 : chkList P N (z0 :: z1 :: zs) (.entr 8 (.t 5) :: .ext 9 8 0 :: pre) = true) (c3 : chkO3 P N ldk [y0, y1, y2, y3] = true)
    (n1 : noDst 0 [x2, x3] = true) (n2 : noDst 0 (z0 :: z1 :: zs) = true) (n3 : noDst 0 [y0, y1, y2, y3] = true) (m1 : noDst 5 [x2, x3] = true) (m5 : noDst 5 (z0 :: z1 :: zs) = true) (m3 : noDst 5 [y0, y1, y2, y3] = true) (u3 : noDst 10 [y1] = true)
    (hJ : AbidesFrom B J)
    {p : Value → Prop} (hp : ∀ e ∈ es, ∀ v, VR g0 e.1 v → p v) (hY : ∀ pre x W1, J pre W1 → p x → pre.length < es.length → YieldAt F (n - 1) P l #[x] W1 fun e W' => (e = .returned (.bool true) ∧ J (pre ++ [x]) W' ∧ KeepsWalks W1 W') ∨ (e = .returned (.bool false) ∧ Jx (pre ++ [x]) W'))
    (h : KAt P N l bm bi m es J a w seen xs) (hdone : ∀ a' w', a'.defers = [] → seen.Perm (es.map (·.1)) → J xs w' → Q .normal a' w')
    (hstop : ∀ a' w' pre, a'.defers = [] → Jx pre w' → Q .ret a' w') (hJx : ∀ pre W W', Jx pre W → W.grownBy W' none → Jx pre W') (I : Act → World → Prop) (hI : ∀ a' w' k x, KAt P N l bm bi m es J a' w' (seen ++ [k]) (xs ++ [x]) → I a' w') :
    (Code.seq (.region i1 o1 false) (.seq (.cond (.tmp 7) .skip (.exit b0)) (.block b1 (.seq (.region i2 o2 false) (.seq (.region i3 o3 false) (.cond (.tmp 13) .ret .skip)))))).wpIn F n P (Exit.then I (Exit.inBlock b0 Q)) a w := by
  simp only [chkO1, chkO3, Bool.and_eq_true] at c1 c3
  obtain ⟨⟨⟨p2, k2⟩, p3⟩, k3⟩ := c1
  obtain ⟨⟨⟨⟨⟨⟨⟨⟨⟨q0, d0⟩, m0⟩, q1⟩, l1⟩, q2⟩, d2⟩, m2⟩, q3⟩, l3⟩ := c3
  simp only [noDst, List.all_cons, List.all_nil, Bool.and_true, Bool.and_eq_true, bne_iff_ne, ne_eq] at n1 n2 n3 m1 m5 m3 u3
  have hrel := h.mini.rel h.size h.defers h.it
  obtain ⟨nk, hkey⟩ := nodup_keys h.mini.mp
  have hcd : cands [AObj.map m es, .iter (some 0) m seen] (.ptr 1 0) = some (1, some 0, m, seen, es.filter fun e => !seen.any (keyEq e.1)) := by simp [cands]
  refine wpIn_seq (wpIn_region_list ?_)
  rw [ho1]
  simp only [chkNxt, Bool.and_eq_true] at k2
  obtain ⟨kd, kop⟩ := k2
  split at kop
  case h_2 => cases kop
  rename_i it' hop2
  have hd6 : x2.dst = some 6 := by simp only [dstIs, Bool.and_eq_true, beq_iff_eq] at kd; exact kd.1
  have put_t : ∀ (a : Act) (d t : Nat) (v : Value), a.tmps.size = N → d < N → (a.put (some d) v).tmps[t]? = if t = d then some v else a.tmps[t]? := fun a d t v ha hd => tmps_put (by rw [ha]; exact hd) v t
  unfold wpListIn
  rw [if_pos (wanted_plain p2)]
  refine ⟨fun f _ => hF f, ?_⟩
  rw [Oper.semAt_eq _ _ _ (not_defer p2)]
  rcases nxt_run hrel hop2 kop (x := .ptr 1 0) rfl hcd with ⟨hnil, hrun⟩ | ⟨e, he, w1, v, hrun, hle, hvr, hrel1, hgr⟩
  · -- nothing is left
    rw [hrun]
    show wpListIn F n P o1 _ [x3] (a.put x2.dst _) w
    rw [hd6]
    have hr2 : Rel P glNo N (gA w) _ (a.put (some 6) (.tuple #[.bool false])) w := rel_env (N := N) (a := a.put (some 6) (.tuple #[.bool false])) (e := [(6, .tup [.bool false])]) (by simp [Act.put, h.size]) h.defers (by simp) (fun p hp => by
      simp at hp; subst hp
      exact ⟨_, by rw [put_t _ _ _ _ h.size (by omega)]; simp, .tup _ [.bool false] (.cons _ _ _ _ (.pure _ _ (.bool _)) .nil), fun _ _ _ h => by simp at h⟩)
    refine step_in hF p3 (ev_sim hr2 k3 rfl) fun v w' g' r1 r2 => ?_
    refine wpListIn_nil ?_
    show (Code.seq _ _).wpIn F n P _ _ _
    obtain ⟨u, hu1, hu2, _⟩ := r2.env 7 (.v (.bool false)) rfl
    have := hu2.bool_inv; subst this
    refine wpIn_seq (wpIn_cond_false (by simp [Act.eval, Array.getD_eq_getD_getElem?, hu1]) (wpIn_exit ?_))
    simp only [Exit.then, Exit.inBlock, if_true]
    refine hdone _ _ r2.defers ?_ (hJ xs w w' none h.j (grown_of r1) (fun r e => by cases e))
    refine (List.perm_ext_iff_of_nodup h.nodup nk).2 fun k => ⟨h.mem k, fun hk => ?_⟩
    obtain ⟨e, he, rfl⟩ := List.mem_map.1 hk
    rw [List.filter_eq_nil_iff] at hnil
    have h2 := hnil e he
    simp only [Bool.not_eq_true, Bool.not_eq_false', List.any_eq_true] at h2
    obtain ⟨k', hk', hke⟩ := h2
    obtain ⟨e', he', hke'⟩ := List.mem_map.1 (h.mem k' hk')
    have : e.1 = k' := keyEq_eq (hkey e he) (by rw [← hke']; exact hkey e' he') hke
    rw [this]; exact hk'
  · -- an entry has come
    rw [List.mem_filter] at he
    obtain ⟨hem, hnew⟩ := he
    have hk1 := hkey e hem
    have hkn : e.1 ∉ seen := fun hmem => by
      simp only [Bool.not_eq_true', List.any_eq_false] at hnew
      exact hnew e.1 hmem (keyEq_self hk1)
    have hgr1 := hgr bi (by simp [gm])
    have hm1 : Mini P w1 bm bi m es (seen ++ [e.1]) := .of hrel1 hv (by simp) (by simp) (by simp [gm]) (by simp [gm])
    have hj1 : J xs w1 := hJ xs w w1 _ h.j hgr1 (fun r e => by cases e; exact ⟨hB, mini_walk h.mini⟩)
    have hb2 := hv e hem
    have hbn : e.2.noOwn = e.2 := by generalize e.2 = y at hb2; cases y <;> simp [isB] at hb2 <;> rfl
    have hkn2 : e.1.noOwn = e.1 := by generalize e.1 = y at hk1; cases y <;> simp only [key1, Bool.false_eq_true] at hk1 <;> rfl
    have hvt : ∀ g, VR g (.tup [.bool true, e.1, e.2]) v := by
      intro g
      obtain ⟨ws, rfl, hws⟩ := hvr.tup_inv
      cases hws with
      | cons _ _ u us h1 h2 => cases h2 with
        | cons _ _ u' us' h3 h4 => cases h4 with
          | cons _ _ u'' us'' h5 h6 =>
            cases h6
            rw [hbn] at h5
            exact .tup _ _ (.cons _ _ _ _ (h1.bool_any rfl g) (.cons _ _ _ _ (.pure _ _ (VR.key1 hk1 h3)) (.cons _ _ _ _ (h5.bool_any hb2 g) .nil)))
    rw [hrun]
    show wpListIn F n P o1 _ [x3] (a.put x2.dst _) w1
    rw [hd6]
    have hr2 : Rel P glNo N (gA w1) _ (a.put (some 6) v) w1 := rel_env (N := N) (a := a.put (some 6) v) (e := [(6, .tup [.bool true, e.1, e.2])]) (by simp [Act.put, h.size]) h.defers (by simp) (fun p hp => by
      simp at hp; subst hp
      exact ⟨_, by rw [put_t _ _ _ _ h.size (by omega)]; simp, hvt _, fun _ _ _ h => by simp at h⟩)
    refine step_in hF p3 (ev_sim hr2 k3 rfl) fun v1 w2 g2 r1 r2 => ?_
    generalize ha2 : (a.put (some 6) v).put x3.dst v1 = a2 at r2
    have s0 : a2.tmps[0]? = a.tmps[0]? := by rw [← ha2, put_stays v1 0 n1.2, put_t _ _ _ _ h.size (by omega)]; simp
    have s5 : a2.tmps[5]? = a.tmps[5]? := by rw [← ha2, put_stays v1 5 m1.2, put_t _ _ _ _ h.size (by omega)]; simp
    clear ha2
    refine wpListIn_nil ?_
    show (Code.seq _ _).wpIn F n P _ _ _
    obtain ⟨u, hu1, hu2, _⟩ := r2.env 7 (.v (.bool true)) rfl
    have := hu2.bool_inv; subst this
    refine wpIn_seq (wpIn_cond_true (by simp [Act.eval, Array.getD_eq_getD_getElem?, hu1]) (wpIn_skip ?_))
    show (Code.block _ _).wpIn F n P _ _ _
    refine wpIn_block (wpIn_seq (wpIn_region_list ?_))
    rw [ho2]
    have hg2 := grown_of r1
    have hm2 := mini_grown hm1 hv hg2
    have hj2 : J xs w2 := hJ xs w1 w2 _ hj1 hg2 (fun r e => by cases e)
    have hrel2 := hm2.rel r2.size r2.defers (s5.trans h.it)
    simp only [chkList, Bool.and_eq_true] at c2
    obtain ⟨⟨f0, f1⟩, ⟨f2, f3⟩, f4⟩ := c2
    obtain ⟨v', hv'⟩ : ∃ v', mapGet es e.1 = some v' := mapGet_ex hk1 hem rfl
    obtain ⟨x8, v8, e1, e2, e3, e4, e5⟩ := sim_entrV (s' := ⟨[(5, .v (.ptr 1 0)), (8, .v (.tup [e.1, v'.noOwn]))], [.map m es, .iter (some 0) m (seen ++ [e.1])]⟩) hrel2 f1 (by simp [ev, evO, Env.get, hv', St.put, okPut, Env.ins])
    have hd8 : z0.dst = some 8 := by simp only [dstIs, Bool.and_eq_true, beq_iff_eq] at e1; exact e1.1
    have hx8 : x8 = .tup [e.1, v'.noOwn] := by
      simp only [St.put, okPut, Env.get] at e2
      simp [Env.ins] at e2
      exact e2
    subst hx8
    obtain ⟨k', hmem', _⟩ := mapGet_mem hv'
    have hb' : isB v' = true := hv _ hmem'
    have hbn' : v'.noOwn = v' := by cases v' <;> simp [isB] at hb' <;> rfl
    rw [hbn'] at e3
    have hv8 : ∀ g, VR g (.tup [e.1, v']) v8 := by
      intro g
      obtain ⟨ws, rfl, hws⟩ := e3.tup_inv
      cases hws with
      | cons _ _ u us h1 h2 => cases h2 with
        | cons _ _ u' us' h3 h4 =>
          cases h4
          exact .tup _ _ (.cons _ _ _ _ (.pure _ _ (VR.key1 hk1 h1)) (.cons _ _ _ _ (h3.bool_any hb' g) .nil))
    unfold wpListIn
    rw [if_pos (wanted_plain f0)]
    refine ⟨fun f _ => hF f, ?_⟩
    rw [Oper.semAt_eq _ _ _ (not_defer f0), e5]
    show wpListIn F n P o2 _ (z1 :: zs) (a2.put z0.dst v8) w2
    rw [hd8]
    have z3 : Rel P glNo N (gA w2) _ (a2.put (some 8) v8) w2 := rel_env (N := N) (a := a2.put (some 8) v8) (e := [(8, .tup [e.1, v'])]) (by simp [Act.put, r2.size]) r2.defers (by simp) (fun p hp => by
      simp at hp; subst hp
      exact ⟨_, by rw [put_t _ _ _ _ r2.size (by omega)]; simp, hv8 _, fun _ _ _ h => by simp at h⟩)
    refine step_in hF f2 (ev_sim (s' := ⟨[(8, .v (.tup [e.1, v'])), (9, .v e.1)], []⟩) z3 f3 (by simp [ev, Env.get, St.put, okPut, Env.ins, hkn2])) fun v9 w3 g3 t1 t2 => ?_
    generalize ha4 : (a2.put (some 8) v8).put z1.dst v9 = a4 at t2
    have s04 : a4.tmps[0]? = a.tmps[0]? := by rw [← ha4, put_stays v9 0 n2.2.1, put_t _ _ _ _ r2.size (by omega)]; simpa using s0
    have s54 : a4.tmps[5]? = a.tmps[5]? := by rw [← ha4, put_stays v9 5 m5.2.1, put_t _ _ _ _ r2.size (by omega)]; simpa using s5
    clear ha4
    have hg3 := grown_of t1
    have hm3 := mini_grown hm2 hv hg3
    have hj3 : J xs w3 := hJ xs w2 w3 _ hj2 hg3 (fun r e => by cases e)
    obtain ⟨kv, hkv1, hkv2, _⟩ := t2.env 9 (.v e.1) rfl
    have hkv : ∀ g, VR g e.1 kv := fun g => .pure _ _ (VR.key1 hk1 hkv2)
    obtain ⟨s2, q4, q5, s3, q6, q7⟩ := hk e hem
    have z4 : Rel P glNo N (gA w3) _ a4 w3 := rel_env (N := N) (a := a4) (e := [(9, e.1)]) t2.size t2.defers (by simp) (fun p hp => by
      simp at hp; subst hp
      exact ⟨kv, hkv1, hkv _, key1_notOwn hk1⟩)
    rw [← List.append_nil zs]
    refine evs_in hF zs pre f4 z4 q4 fun g5 a5 w4 t3 t4 t5 => wpListIn_nil ?_
    show (Code.seq _ _).wpIn F n P _ a5 w4
    have s05 : a5.tmps[0]? = a.tmps[0]? := (t5 0 (fun o ho => by have := List.all_eq_true.1 n2.2.2 o ho; simpa using this)).trans s04
    have s55 : a5.tmps[5]? = a.tmps[5]? := (t5 5 (fun o ho => by have := List.all_eq_true.1 m5.2.2 o ho; simpa using this)).trans s54
    refine wpIn_seq (wpIn_region_list ?_)
    rw [ho3]
    -- the call
    have hd10 : y0.dst = some 10 := by simp only [dstIs, Bool.and_eq_true, beq_iff_eq] at d0; exact d0.1
    have hd12 : y2.dst = some 12 := by simp only [dstIs, Bool.and_eq_true, beq_iff_eq] at d2; exact d2.1
    unfold wpListIn
    rw [if_pos (wanted_plain q0)]
    refine ⟨fun f _ => hF f, ?_⟩
    rw [Oper.semAt_eq _ _ _ (not_defer q0), run_move0 m0 (s05.trans h.yv)]
    show wpListIn F n P o3 _ [y1, y2, y3] (a5.put y0.dst _) w4
    rw [hd10]
    have t6 := t4.forget (v := .func (.yield l) #[] #[]) q5 (by omega)
    refine step_in hF q1 (ev_sim t6 l1 q6) fun v7 w5 g6 u1 u2 => ?_
    generalize ha7 : (a5.put (some 10) (.func (.yield l) #[] #[])).put y1.dst v7 = a7 at u2
    have s07 : a7.tmps[0]? = a.tmps[0]? := by rw [← ha7, put_stays v7 0 n3.2.1, put_t _ _ _ _ t4.size (by omega)]; simpa using s05
    have s57 : a7.tmps[5]? = a.tmps[5]? := by rw [← ha7, put_stays v7 5 m3.2.1, put_t _ _ _ _ t4.size (by omega)]; simpa using s55
    have s107 : a7.tmps[10]? = some (.func (.yield l) #[] #[]) := by rw [← ha7, put_stays v7 10 u3, put_t _ _ _ _ t4.size (by omega)]; simp
    clear ha7
    have hg5 := grown_of (t3.trans u1)
    have hm5 := mini_grown hm3 hv hg5
    have hj5 : J xs w5 := hJ xs w3 w5 _ hj3 hg5 (fun r e => by cases e)
    obtain ⟨kx, hkx1, hkx2, _⟩ := u2.env 11 (.v e.1) q7
    have hkx : ∀ g, VR g e.1 kx := fun g => .pure _ _ (VR.key1 hk1 hkx2)
    have hnd : (seen ++ [e.1]).Nodup := by
      rw [List.nodup_append]
      exact ⟨h.nodup, by simp, fun a ha b hb => by simp at hb; subst hb; rintro rfl; exact hkn ha⟩
    have hsub : ∀ k ∈ seen ++ [e.1], k ∈ es.map (·.1) := fun k hk' => by
      rcases List.mem_append.1 hk' with hk' | hk'
      · exact h.mem k hk'
      · simp at hk'; subst hk'; exact List.mem_map.2 ⟨e, hem, rfl⟩
    have hlen : xs.length < es.length := by
      have h1 := List.Nodup.length_le_of_subset hnd (fun k hk' => hsub k hk')
      have h2 := h.vals.len
      simp at h1; omega
    obtain ⟨fn', tm, as, bd, hy, hR⟩ := hY xs kx w5 hj5 (hp e hem kx (hkx _)) hlen
    unfold wpListIn
    rw [if_pos (wanted_plain q2)]
    refine ⟨fun f _ => hF f, ?_⟩
    rw [Oper.semAt_eq _ _ _ (not_defer q2), run_yieldOp m2 s107 hkx1 hy]
    refine ⟨hn, hR.mono ?_⟩
    have key : ∀ (e' : Ending) (W' : World) (b : Bool), e' = .returned (.bool b) → (b = true → J (xs ++ [kx]) W' ∧ KeepsWalks w5 W') → (b = false → Jx (xs ++ [kx]) W') →
        wpListIn F n P o3 (Exit.then (fun a' w' => (Code.cond (.tmp 13) .ret .skip).wpIn F n P (Exit.inBlock b1 (Exit.then I (Exit.inBlock b0 Q))) a' w') (Exit.inBlock b1 (Exit.then I (Exit.inBlock b0 Q)))) [y3] (a7.put y2.dst (.bool b)) W' := by
      rintro _ W' b rfl ht hf
      rw [hd12]
      have z5 : Rel P glNo N (gA W') _ (a7.put (some 12) (.bool b)) W' := rel_env (N := N) (a := a7.put (some 12) (.bool b)) (e := [(12, .bool b)]) (by simp [Act.put, u2.size]) u2.defers (by simp) (fun p hp => by
        simp at hp; subst hp
        exact ⟨_, by rw [put_t _ _ _ _ u2.size (by omega)]; simp, .pure _ _ (.bool b), notOwn_bool b⟩)
      refine step_in hF q3 (ev_sim (s' := ⟨[(12, .v (.bool b)), (13, .v (.bool (!b)))], []⟩) z5 l3 (by simp [ev, evO, Env.get, St.put, okPut, Env.ins])) fun v13 w6 g7 x1 x2 => ?_
      generalize ha8 : (a7.put (some 12) (.bool b)).put y3.dst v13 = a8 at x2
      have s08 : a8.tmps[0]? = a.tmps[0]? := by rw [← ha8, put_stays v13 0 n3.2.2.2, put_t _ _ _ _ u2.size (by omega)]; simpa using s07
      have s58 : a8.tmps[5]? = a.tmps[5]? := by rw [← ha8, put_stays v13 5 m3.2.2.2, put_t _ _ _ _ u2.size (by omega)]; simpa using s57
      clear ha8
      refine wpListIn_nil ?_
      show (Code.cond _ _ _).wpIn F n P _ a8 w6
      have hg6 := grown_of x1
      obtain ⟨u, hu1, hu2, _⟩ := x2.env 13 (.v (.bool (!b))) rfl
      have := hu2.bool_inv; subst this
      have hev : a8.eval (.tmp 13) = .bool (!b) := by simp [Act.eval, Array.getD_eq_getD_getElem?, hu1]
      cases b with
      | true =>
        obtain ⟨hj', hk'⟩ := ht rfl
        refine wpIn_cond_false hev (wpIn_skip ?_)
        show I a8 w6
        exact hI _ _ e.1 kx ⟨x2.size, x2.defers, s08.trans h.yv, s58.trans h.it, mini_grown (hm5.keeps hv hk') hv hg6, h.vals.append (.cons _ _ _ _ (hkx _) .nil), hnd, hsub, hJ _ W' w6 _ hj' hg6 (fun r e => by cases e)⟩
      | false =>
        refine wpIn_cond_true hev (wpIn_ret ?_)
        show Q .ret a8 w6
        exact hstop _ _ _ x2.defers (hJx _ _ _ (hf rfl) hg6)
    rintro e' W' (⟨rfl, h1, h2⟩ | ⟨rfl, h1⟩)
    · exact key _ W' true rfl (fun _ => ⟨h1, h2⟩) (fun h => by cases h)
    · exact key _ W' false rfl (fun h => by cases h) (fun _ => h1)

theorem shapeO0 {l : List Oper} (h : chkO0 P N l = true) : ∃ x0 x1, l = [x0, x1] := by
  unfold chkO0 at h
  split at h
  · exact ⟨_, _, rfl⟩
  · cases h
theorem shapeO1 {l : List Oper} (h : chkO1 P N l = true) : ∃ x0 x1, l = [x0, x1] := by
  unfold chkO1 at h
  split at h
  · exact ⟨_, _, rfl⟩
  · cases h
theorem shapeO3 {ldk : SOp} {l : List Oper} (h : chkO3 P N ldk l = true) : ∃ x0 x1 x2 x3, l = [x0, x1, x2, x3] := by
  unfold chkO3 at h
  split at h
  · exact ⟨_, _, _, _, rfl⟩
  · cases h
theorem shapeO2 {a b : SOp} {pre : List SOp} : ∀ {l : List Oper}, chkList P N l (a :: b :: pre) = true → ∃ x0 x1 zs, l = x0 :: x1 :: zs
  | [], h => by simp [chkList] at h
  | [_], h => by simp [chkList] at h
  | x :: y :: r, _ => ⟨x, y, r, rfl⟩
/-- **The keys of a map come, each once, in some order**, whatever the rounds do, as long as they leave maps and iterators alone. -/
theorem keys_in (hF : ∀ f, F.fn f) (hro : F.round = none) (hn : F.depth.isSome = true → 1 ≤ n) {fk : Nat} {fn : Func} {c : Code} {pre : List SOp} {ldk : SOp} (hf : P.funcs[fk]? = some fn) (hb : fn.body = some c)
    (hres : fn.results = #[]) (hC : chkKeysC P fn.ntmps pre ldk c = true) {id bm m Bm l : Nat} {es : List (AV × AV)} (hv : ∀ e ∈ es, isB e.2 = true) (hk : ∀ e ∈ es, PreOk pre ldk e.1)
    (hm : MapR P g w id bm m es) (hbox : w.cell? ⟨Bm, 0, none⟩ = some (.map (some bm))) {J Jx : List Value → World → Prop} (hJ : AbidesFrom w.heap.size J) (hJx : ∀ pre W W', Jx pre W → W.grownBy W' none → Jx pre W')
    {p : Value → Prop} (hp : ∀ e ∈ es, ∀ v, VR g0 e.1 v → p v) (hY : ∀ pre x W1, J pre W1 → p x → pre.length < es.length → YieldAt F (n - 1) P l #[x] W1 fun e W' => (e = .returned (.bool true) ∧ J (pre ++ [x]) W' ∧ KeepsWalks W1 W') ∨ (e = .returned (.bool false) ∧ Jx (pre ++ [x]) W'))
    (h0 : J [] w) : CallsIn F n P fk #[.func (.yield l) #[] #[], ptrTo Bm 0] w fun e W' => (∃ v, e = .returned v) ∧
      ((∃ xs, (∃ ks, ks.Perm (es.map (·.1)) ∧ VRs g0 ks xs) ∧ J xs W') ∨ (∃ pre, True ∧ Jx pre W')) := by
  unfold chkKeysC at hC
  split at hC
  case h_2 => cases hC
  rename_i i0 o0 b0 i1 o1 t7 b0' b1 i2 o2 i3 o3 t13
  simp only [Bool.and_eq_true, beq_iff_eq, decide_eq_true_eq] at hC
  obtain ⟨⟨⟨⟨⟨⟨⟨⟨⟨⟨⟨⟨⟨⟨⟨rfl, rfl⟩, rfl⟩, hN⟩, c0⟩, c1⟩, c2⟩, c3⟩, n0⟩, n1⟩, n2⟩, n3⟩, m1⟩, m5⟩, m3⟩, u3⟩ := hC
  obtain ⟨x0, x1, ho0⟩ := shapeO0 c0
  obtain ⟨x2, x3, ho1⟩ := shapeO1 c1
  obtain ⟨z0, z1, zs, ho2⟩ := shapeO2 c2
  obtain ⟨y0, y1, y2, y3, ho3⟩ := shapeO3 c3
  rw [ho0] at c0 n0
  rw [ho1] at c1 n1 m1
  rw [ho2] at c2 n2 m5
  rw [ho3] at c3 n3 m3 u3
  simp only [chkO0, Bool.and_eq_true] at c0
  obtain ⟨⟨⟨p0, k0⟩, p1⟩, k1⟩ := c0
  refine callsIn_of_wp hf hb (hF _) ?_ hro
  have hsz : (#[Value.func (.yield l) #[] #[], ptrTo Bm 0] ++ Array.replicate (fn.ntmps - 2) undef).size = fn.ntmps := by simp; omega
  show Code.wpIn _ _ _ _ _ { tmps := #[Value.func (.yield l) #[] #[], ptrTo Bm 0] ++ Array.replicate (fn.ntmps - 2) undef, defers := [] } w
  generalize hT : (#[Value.func (.yield l) #[] #[], ptrTo Bm 0] ++ Array.replicate (fn.ntmps - 2) undef) = T at hsz
  have hT0 : T[0]? = some (.func (.yield l) #[] #[]) := by rw [← hT]; simp [Array.getElem?_append]
  have hT1 : T[1]? = some (ptrTo Bm 0) := by rw [← hT]; simp [Array.getElem?_append]
  clear hT
  refine wpIn_seq (wpIn_region_list ?_)
  rw [ho0]
  have hd4 : x0.dst = some 4 := by simp only [chkLd, dstIs, Bool.and_eq_true, beq_iff_eq] at k0; exact k0.1.1
  have hr0 : (execOp ({ tmps := T, defers := [] } : Act).eval x0).run P w = .ok (.value (.map (some bm))) w := by
    simp only [chkLd, Bool.and_eq_true] at k0
    obtain ⟨_, k0⟩ := k0
    split at k0
    · rename_i t x' hop
      simp only [Bool.and_eq_true] at k0
      obtain ⟨⟨hx, _⟩, hk⟩ := k0
      have hx' : x' = .tmp 1 := by unfold chkOpd at hx; split at hx <;> simp_all
      subst hx'
      have hev : ({ tmps := T, defers := [] } : Act).eval (.tmp 1) = ptrTo Bm 0 := by simp [Act.eval, Array.getD_eq_getD_getElem?, hT1]
      simp only [execOp, hop, Sem.run_bind, hev]
      split at hk
      · simp at hk
      · simp at hk
      · rename_i dsc hd1 hd2 hu'
        rw [run_load_one hu' ⟨fun fs e => hd1 fs e, fun n e e' => hd2 n e e'⟩ hbox]; rfl
      · cases hk
    · cases k0
  unfold wpListIn
  rw [if_pos (wanted_plain p0)]
  refine ⟨fun f _ => hF f, ?_⟩
  rw [Oper.semAt_eq _ _ _ (not_defer p0), hr0]
  show wpListIn F n P o0 _ [x1] (Act.put { tmps := T, defers := [] } x0.dst _) w
  rw [hd4]
  have put_t : ∀ (a : Act) (d t : Nat) (v : Value), a.tmps.size = fn.ntmps → d < fn.ntmps → (a.put (some d) v).tmps[t]? = if t = d then some v else a.tmps[t]? := fun a d t v ha hd => tmps_put (by rw [ha]; exact hd) v t
  have hR := rel_map (N := fn.ntmps) (a := Act.put { tmps := T, defers := [] } (some 4) (.map (some bm))) (t := 4) hm hv (by simp [Act.put, hsz]) rfl (by rw [put_t _ _ _ _ hsz (by omega)]; simp)
  generalize ha1 : Act.put { tmps := T, defers := [] } (some 4) (.map (some bm)) = a1 at hR
  have s01 : a1.tmps[0]? = some (.func (.yield l) #[] #[]) := by rw [← ha1, put_t _ _ _ _ hsz (by omega)]; simpa using hT0
  have s41 : a1.tmps[4]? = some (.map (some bm)) := by rw [← ha1, put_t _ _ _ _ hsz (by omega)]; simp
  clear ha1
  have hd5 : x1.dst = some 5 := by simp only [chkOp, chkRng, dstIs, Bool.and_eq_true, beq_iff_eq] at k1; exact k1.1.1
  have hr1 : (execOp a1.eval x1).run P w = .ok (.value (ptrTo w.heap.size 0)) (w.alloc (.mapIter (some bm) m #[] m)) := by
    simp only [chkOp, chkRng, Bool.and_eq_true] at k1
    obtain ⟨_, k1⟩ := k1
    split at k1
    · rename_i t x' hop
      simp only [Bool.and_eq_true] at k1
      obtain ⟨hx, hk⟩ := k1
      have hx' : x' = .tmp 4 := by unfold chkOpd at hx; split at hx <;> simp_all
      subst hx'
      have hev : a1.eval (.tmp 4) = .map (some bm) := by simp [Act.eval, Array.getD_eq_getD_getElem?, s41]
      obtain ⟨arr, p1, _⟩ := hm
      split at hk
      · rename_i kt et hu
        simp only [execOp, hop, hev, Sem.run_bind, run_range_map hu p1, Result.andThen_ok, Sem.run_pure]
      · cases hk
    · cases k1
  obtain ⟨v5, w1, g1, e1, e2, e3⟩ := ev_sim (s' := ⟨[(4, .v (.map 0)), (5, .v (.ptr 1 0))], [.map m es, .iter (some 0) m []]⟩) hR k1 (by simp [ev, evO, Env.get, St.put, okPut, Env.ins])
  have hvw : v5 = ptrTo w.heap.size 0 ∧ w1 = w.alloc (.mapIter (some bm) m #[] m) := by
    rcases e1 with e1 | ⟨e1, _⟩
    · rw [hr1] at e1; simp only [Result.ok.injEq, Next.value.injEq] at e1; exact ⟨e1.1.symm, e1.2.symm⟩
    · rw [hr1] at e1; simp only [Result.ok.injEq] at e1; exact absurd e1.1 (by simp)
  obtain ⟨rfl, rfl⟩ := hvw
  unfold wpListIn
  rw [if_pos (wanted_plain p1)]
  refine ⟨fun f _ => hF f, ?_⟩
  rw [Oper.semAt_eq _ _ _ (not_defer p1), hr1]
  rw [Oper.uponIn_value]
  refine wpListIn_nil ?_
  show (Code.block _ _).wpIn F n P _ _ _
  generalize ha2 : a1.put x1.dst (ptrTo w.heap.size 0) = a2 at e3
  have n0' : ¬x1.dst = some 0 := by simp only [noDst, List.all_cons, Bool.and_eq_true, bne_iff_ne] at n0; exact n0.2.1
  have s02 : a2.tmps[0]? = some (.func (.yield l) #[] #[]) := by rw [← ha2, put_stays _ 0 n0']; exact s01
  have s42 : a2.tmps[4]? = some (.map (some bm)) := by rw [← ha2, put_stays _ 4 (by rw [hd5]; simp)]; exact s41
  have s52 : a2.tmps[5]? = some (ptrTo w.heap.size 0) := by rw [← ha2, hd5, put_t _ _ _ _ hR.size (by omega)]; simp
  clear ha2
  obtain ⟨u4, hu4, hu4', _⟩ := e3.env 4 (.v (.map 0)) rfl
  obtain ⟨bm', hρ0, rfl⟩ := hu4'.map_inv
  obtain ⟨u5, hu5, hu5', _⟩ := e3.env 5 (.v (.ptr 1 0)) rfl
  obtain ⟨bi, hρ1, rfl⟩ := hu5'.ptr_inv
  have hbm : bm' = bm := by rw [s42] at hu4; simpa using hu4.symm
  have hbi : bi = w.heap.size := by rw [s52] at hu5; simpa [ptrTo] using hu5.symm
  subst hbm hbi
  have hgr : w.grownBy (w.alloc (.mapIter (some bm') m #[] m)) none := World.grownBy_alloc _ _ _
  have hm1 : Mini P (w.alloc (.mapIter (some bm') m #[] m)) bm' w.heap.size m es [] := .of e3 hv (by simp) (by simp) hρ0 hρ1
  have hat : KAt P fn.ntmps l bm' w.heap.size m es J a2 (w.alloc (.mapIter (some bm') m #[] m)) [] [] :=
    ⟨e3.size, e3.defers, s02, s52, hm1, .nil, by simp, by simp, hJ [] w _ none h0 hgr (fun r e => by cases e)⟩
  refine wpIn_block (wpIn_loop (fun a w' => ∃ seen xs, KAt P fn.ntmps l bm' w.heap.size m es J a w' seen xs) (fun _ w' => es.length - seenOf w' w.heap.size) ⟨[], [], hat⟩ ?_)
  rintro a3 w3 ⟨seen, xs, h3⟩
  refine keys_round (B := w.heap.size) hF hn hv hk hN (Nat.le_refl _) ho1 ho2 ho3 c1 c2 c3 n1 n2 n3 m1 m5 m3 u3 hJ hp hY h3 ?_ ?_ hJx _ ?_
  · intro a' w' hd hp hj
    exact ⟨hd, .tuple #[], by simp [results, hres], ⟨_, rfl⟩, .inl ⟨xs, ⟨seen, hp, h3.vals⟩, hj⟩⟩
  · intro a' w' pre hd hx
    exact ⟨hd, .tuple #[], by simp [results, hres], ⟨_, rfl⟩, .inr ⟨pre, trivial, hx⟩⟩
  · intro a' w' k x h'
    refine ⟨⟨_, _, h'⟩, ?_⟩
    have h1 := List.Nodup.length_le_of_subset h'.nodup (fun k hk => h'.mem k hk)
    rw [h'.mini.seen_eq, h3.mini.seen_eq]
    simp at h1 ⊢; omega
end
end
end AM
