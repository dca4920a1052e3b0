/- An abstract machine for the program of the seat, and what of the given program it does, part 14 of 16. Conditions: none. -/
import Derived.Test.YtbgaambfhmnhhaaGreatDoorAm12
import Derived.Attr
/-! Equations of the abstract machine's code for symbolic runs. -/
namespace AM
open Go
section
variable {P : Program} {gl : Glob} {D : Dets}
theorem exec_congr {c : SCode} {s s' : St} {Q : Ex → St → Prop} (h : s = s') : exec P gl D c s Q = exec P gl D c s' Q := by rw [h]
theorem x_skip {s : St} {Q : Ex → St → Prop} : exec P gl D .skip s Q = Q .normal s := rfl
theorem x_reg {its : List It} {dr : List Nat} {s : St} {Q : Ex → St → Prop} : exec P gl D (.reg its dr) s Q = runR P gl D its s (fun s' => Q .normal { s' with env := s'.env.close dr }) := rfl
theorem x_seq {x y : SCode} {s : St} {Q : Ex → St → Prop} : exec P gl D (.seq x y) s Q = exec P gl D x s (fun e s' => match e with | .normal => exec P gl D y s' Q | e => Q e s') := rfl
theorem x_condT {c : Opd} {x y : SCode} {s : St} {Q : Ex → St → Prop} (h : evO gl s.env c = some (.bool true)) : exec P gl D (.cond c x y) s Q = exec P gl D x s Q := by simp [exec, h]
theorem x_condF {c : Opd} {x y : SCode} {s : St} {Q : Ex → St → Prop} (h : evO gl s.env c = some (.bool false)) : exec P gl D (.cond c x y) s Q = exec P gl D y s Q := by simp [exec, h]
theorem x_cond {c : Opd} {x y : SCode} {s : St} {Q : Ex → St → Prop} : exec P gl D (.cond c x y) s Q = match evO gl s.env c with
    | some (.bool t) => if t = true then exec P gl D x s Q else exec P gl D y s Q
    | _ => False := rfl
theorem x_block {i : Nat} {x : SCode} {s : St} {Q : Ex → St → Prop} : exec P gl D (.block i x) s Q = exec P gl D x s (fun e s => match e with | .exit j => if j = i then Q .normal s else Q (.exit j) s | e => Q e s) := rfl
theorem x_exit {i : Nat} {s : St} {Q : Ex → St → Prop} : exec P gl D (.exit i) s Q = Q (.exit i) s := rfl
theorem x_ret {s : St} {Q : Ex → St → Prop} : exec P gl D .ret s Q = Q .ret s := rfl
theorem x_drop {ts : List Nat} {x : SCode} {s : St} {Q : Ex → St → Prop} : exec P gl D (.drop ts x) s Q = exec P gl D x { s with env := s.env.close ts } Q := rfl
theorem x_nil {s : St} {K : St → Prop} : runR P gl D [] s K = K s := rfl
theorem x_on {o : SOp} {r : List It} {s : St} {K : St → Prop} : runR P gl D (⟨none, o⟩ :: r) s K = opX P gl D s (fun s' => runR P gl D r s' K) o := rfl
theorem x_og {t : Nat} {w : Bool} {o : SOp} {r : List It} {s : St} {K : St → Prop} : runR P gl D (⟨some (t, w), o⟩ :: r) s K = match guardV s.env (some (t, w)) with
    | some true => opX P gl D s (fun s' => runR P gl D r s' K) o
    | some false => (match dstOf o with
      | some d => (match s.put d (.tup []) with | some s' => runR P gl D r s' K | none => False)
      | none => runR P gl D r s K)
    | none => False := rfl
theorem x_callP {d : Option Nat} {f : Nat} {xs : List Opd} {s : St} {K : St → Prop} : opX P gl D s K (.callP d f xs) = match evOs gl s.env xs with
    | some vs => (vs.map AV.noOwn).all AV.arg = true ∧ (match D f (vs.map AV.noOwn) with
      | some r => Det P gl f (vs.map AV.noOwn) r ∧ (match s.putO d r with | some s' => K s' | none => False)
      | none => False)
    | none => False := rfl
theorem xo_mv {d : Nat} {x : Opd} {s : St} {K : St → Prop} : opX P gl D s K (.mv d x) = match ev gl s (.mv d x) with | some s' => K s' | none => False := rfl
theorem xo_tk {d x : Nat} {s : St} {K : St → Prop} : opX P gl D s K (.tk d x) = match ev gl s (.tk d x) with | some s' => K s' | none => False := rfl
theorem xo_nil_ {d e sz : Nat} {s : St} {K : St → Prop} : opX P gl D s K (.nil_ d e sz) = match ev gl s (.nil_ d e sz) with | some s' => K s' | none => False := rfl
theorem xo_pick {d : Nat} {c a b : Opd} {s : St} {K : St → Prop} : opX P gl D s K (.pick d c a b) = match ev gl s (.pick d c a b) with | some s' => K s' | none => False := rfl
theorem xo_bin {d m : Nat} {op : BinOp} {x y : Opd} {s : St} {K : St → Prop} : opX P gl D s K (.bin d m op x y) = match ev gl s (.bin d m op x y) with | some s' => K s' | none => False := rfl
theorem xo_eqa {d : Nat} {ne : Bool} {ks : List Nat} {x y : Opd} {s : St} {K : St → Prop} : opX P gl D s K (.eqa d ne ks x y) = match ev gl s (.eqa d ne ks x y) with | some s' => K s' | none => False := rfl
theorem xo_not_ {d : Nat} {x : Opd} {s : St} {K : St → Prop} : opX P gl D s K (.not_ d x) = match ev gl s (.not_ d x) with | some s' => K s' | none => False := rfl
theorem xo_neg {d : Nat} {x : Opd} {s : St} {K : St → Prop} : opX P gl D s K (.neg d x) = match ev gl s (.neg d x) with | some s' => K s' | none => False := rfl
theorem xo_conv {d : Nat} {k : IntKind} {x : Opd} {s : St} {K : St → Prop} : opX P gl D s K (.conv d k x) = match ev gl s (.conv d k x) with | some s' => K s' | none => False := rfl
theorem xo_ext {d x i : Nat} {s : St} {K : St → Prop} : opX P gl D s K (.ext d x i) = match ev gl s (.ext d x i) with | some s' => K s' | none => False := rfl
theorem xo_len {d m : Nat} {x : Opd} {s : St} {K : St → Prop} : opX P gl D s K (.len d m x) = match ev gl s (.len d m x) with | some s' => K s' | none => False := rfl
theorem xo_alloc {d : Nat} {z : List AV} {s : St} {K : St → Prop} : opX P gl D s K (.alloc d z) = match ev gl s (.alloc d z) with | some s' => K s' | none => False := rfl
theorem xo_box {d : Nat} {x : Opd} {s : St} {K : St → Prop} : opX P gl D s K (.box d x) = match ev gl s (.box d x) with | some s' => K s' | none => False := rfl
theorem xo_allocH {d : Nat} {z : List AV} {s : St} {K : St → Prop} : opX P gl D s K (.allocH d z) = match ev gl s (.allocH d z) with | some s' => K s' | none => False := rfl
theorem xo_boxH {d : Nat} {x : Opd} {s : St} {K : St → Prop} : opX P gl D s K (.boxH d x) = match ev gl s (.boxH d x) with | some s' => K s' | none => False := rfl
theorem xo_boxI {d : Nat} {x : Opd} {s : St} {K : St → Prop} : opX P gl D s K (.boxI d x) = match ev gl s (.boxI d x) with | some s' => K s' | none => False := rfl
theorem xo_build {d : Nat} {z : List AV} {parts : List (Nat × Nat × Opd)} {s : St} {K : St → Prop} : opX P gl D s K (.build d z parts) = match ev gl s (.build d z parts) with | some s' => K s' | none => False := rfl
theorem xo_lit {d sz : Nat} {xs : List Opd} {s : St} {K : St → Prop} : opX P gl D s K (.lit d sz xs) = match ev gl s (.lit d sz xs) with | some s' => K s' | none => False := rfl
theorem xo_fa {d : Nat} {x : Opd} {off : Nat} {s : St} {K : St → Prop} : opX P gl D s K (.fa d x off) = match ev gl s (.fa d x off) with | some s' => K s' | none => False := rfl
theorem xo_ia {d sz : Nat} {x i : Opd} {s : St} {K : St → Prop} : opX P gl D s K (.ia d sz x i) = match ev gl s (.ia d sz x i) with | some s' => K s' | none => False := rfl
theorem xo_iaa {d : Nat} {x : Opd} {n sz : Nat} {i : Opd} {s : St} {K : St → Prop} : opX P gl D s K (.iaa d x n sz i) = match ev gl s (.iaa d x n sz i) with | some s' => K s' | none => False := rfl
theorem xo_ld {d : Nat} {x : Opd} {n : Nat} {ag : Bool} {s : St} {K : St → Prop} : opX P gl D s K (.ld d x n ag) = match ev gl s (.ld d x n ag) with | some s' => K s' | none => False := rfl
theorem xo_ldt {d : Nat} {x : Opd} {e sz : Nat} {s : St} {K : St → Prop} : opX P gl D s K (.ldt d x e sz) = match ev gl s (.ldt d x e sz) with | some s' => K s' | none => False := rfl
theorem xo_st {n : Nat} {x v : Opd} {s : St} {K : St → Prop} : opX P gl D s K (.st n x v) = match ev gl s (.st n x v) with | some s' => K s' | none => False := rfl
theorem xo_stt {x : Opd} {v : Nat} {s : St} {K : St → Prop} : opX P gl D s K (.stt x v) = match ev gl s (.stt x v) with | some s' => K s' | none => False := rfl
theorem xo_idx {d : Nat} {x i : Opd} {s : St} {K : St → Prop} : opX P gl D s K (.idx d x i) = match ev gl s (.idx d x i) with | some s' => K s' | none => False := rfl
theorem xo_slc {d sz : Nat} {x : Opd} {lo hi : Option Opd} {s : St} {K : St → Prop} : opX P gl D s K (.slc d sz x lo hi) = match ev gl s (.slc d sz x lo hi) with | some s' => K s' | none => False := rfl
theorem xo_sla {d : Nat} {x : Opd} {n sz : Nat} {lo hi : Option Opd} {s : St} {K : St → Prop} : opX P gl D s K (.sla d x n sz lo hi) = match ev gl s (.sla d x n sz lo hi) with | some s' => K s' | none => False := rfl
theorem xo_app {d u : Nat} {x : Opd} {e sz : Nat} {s : St} {K : St → Prop} : opX P gl D s K (.app d u x e sz) = match ev gl s (.app d u x e sz) with | some s' => K s' | none => False := rfl
theorem xo_nilchk {d : Nat} {x : Opd} {s : St} {K : St → Prop} : opX P gl D s K (.nilchk d x) = match ev gl s (.nilchk d x) with | some s' => K s' | none => False := rfl
theorem xo_mkfn {d f : Nat} {caps : List Opd} {s : St} {K : St → Prop} : opX P gl D s K (.mkfn d f caps) = match ev gl s (.mkfn d f caps) with | some s' => K s' | none => False := rfl
theorem xo_mkself {d : Nat} {c : Opd} {e sz : Nat} {s : St} {K : St → Prop} : opX P gl D s K (.mkself d c e sz) = match ev gl s (.mkself d c e sz) with | some s' => K s' | none => False := rfl
theorem xo_allocT {d e : Nat} {z : List AV} {s : St} {K : St → Prop} : opX P gl D s K (.allocT d e z) = match ev gl s (.allocT d e z) with | some s' => K s' | none => False := rfl
theorem xo_cvt {d : Nat} {x : Opd} {e sz : Nat} {s : St} {K : St → Prop} : opX P gl D s K (.cvt d x e sz) = match ev gl s (.cvt d x e sz) with | some s' => K s' | none => False := rfl
theorem xo_mm {d : Nat} {mx : Bool} {x y : Opd} {s : St} {K : St → Prop} : opX P gl D s K (.mm d mx x y) = match ev gl s (.mm d mx x y) with | some s' => K s' | none => False := rfl
theorem xo_mkmap {d : Nat} {s : St} {K : St → Prop} : opX P gl D s K (.mkmap d) = match ev gl s (.mkmap d) with | some s' => K s' | none => False := rfl
theorem xo_look {ks : List Nat} {d : Nat} {m k : Opd} {zero : AV} {ok : Bool} {s : St} {K : St → Prop} : opX P gl D s K (.look ks d m k zero ok) = match ev gl s (.look ks d m k zero ok) with | some s' => K s' | none => False := rfl
theorem xo_lookT {ks : List Nat} {d : Nat} {m k : Opd} {zero : AV} {s : St} {K : St → Prop} : opX P gl D s K (.lookT ks d m k zero) = match ev gl s (.lookT ks d m k zero) with | some s' => K s' | none => False := rfl
theorem xo_upd {ks : List Nat} {m k v : Opd} {s : St} {K : St → Prop} : opX P gl D s K (.upd ks m k v) = match ev gl s (.upd ks m k v) with | some s' => K s' | none => False := rfl
theorem xo_updT {ks : List Nat} {m k : Opd} {v : Nat} {s : St} {K : St → Prop} : opX P gl D s K (.updT ks m k v) = match ev gl s (.updT ks m k v) with | some s' => K s' | none => False := rfl
theorem xo_mdel {ks : List Nat} {d : Option Nat} {m k : Opd} {s : St} {K : St → Prop} : opX P gl D s K (.mdel ks d m k) = match ev gl s (.mdel ks d m k) with | some s' => K s' | none => False := rfl
theorem xo_rng {d : Nat} {m : Opd} {s : St} {K : St → Prop} : opX P gl D s K (.rng d m) = match ev gl s (.rng d m) with | some s' => K s' | none => False := rfl
theorem xo_entr {d : Nat} {it : Opd} {s : St} {K : St → Prop} : opX P gl D s K (.entr d it) = match ev gl s (.entr d it) with | some s' => K s' | none => False := rfl
theorem xo_litH {d e sz : Nat} {xs : List Opd} {s : St} {K : St → Prop} : opX P gl D s K (.litH d e sz xs) = match ev gl s (.litH d e sz xs) with | some s' => K s' | none => False := rfl
theorem xo_litO {d e sz : Nat} {xs : List Opd} {s : St} {K : St → Prop} : opX P gl D s K (.litO d e sz xs) = match ev gl s (.litO d e sz xs) with | some s' => K s' | none => False := rfl
theorem xo_mks {d e : Nat} {z : List AV} {x : Opd} {s : St} {K : St → Prop} : opX P gl D s K (.mks d e z x) = match ev gl s (.mks d e z x) with | some s' => K s' | none => False := rfl
theorem xo_apph {d e sz : Nat} {sb : Bool} {u x : Opd} {s : St} {K : St → Prop} : opX P gl D s K (.apph d e sz sb u x) = match ev gl s (.apph d e sz sb u x) with | some s' => K s' | none => False := rfl
theorem xo_appc {d u : Nat} {x : Opd} {e sz : Nat} {s : St} {K : St → Prop} : opX P gl D s K (.appc d u x e sz) = match ev gl s (.appc d u x e sz) with | some s' => K s' | none => False := rfl
theorem xo_appd {d u : Nat} {x : Opd} {e sz : Nat} {s : St} {K : St → Prop} : opX P gl D s K (.appd d u x e sz) = match ev gl s (.appd d u x e sz) with | some s' => K s' | none => False := rfl
theorem xo_isnil {d : Nat} {ne : Bool} {x : Opd} {s : St} {K : St → Prop} : opX P gl D s K (.isnil d ne x) = match ev gl s (.isnil d ne x) with | some s' => K s' | none => False := rfl
theorem xo_clo {d : Nat} {x : Opd} {sz : Nat} {s : St} {K : St → Prop} : opX P gl D s K (.clo d x sz) = match ev gl s (.clo d x sz) with | some s' => K s' | none => False := rfl
theorem xo_sdata {d : Nat} {x : Opd} {s : St} {K : St → Prop} : opX P gl D s K (.sdata d x) = match ev gl s (.sdata d x) with | some s' => K s' | none => False := rfl
theorem xo_ustr {d e : Nat} {x n : Opd} {s : St} {K : St → Prop} : opX P gl D s K (.ustr d e x n) = match ev gl s (.ustr d e x n) with | some s' => K s' | none => False := rfl
theorem xo_noesc {d f : Nat} {x : Opd} {s : St} {K : St → Prop} : opX P gl D s K (.noesc d f x) = match ev gl s (.noesc d f x) with | some s' => K s' | none => False := rfl
theorem xo_cmps {d f : Nat} {x y : Opd} {s : St} {K : St → Prop} : opX P gl D s K (.cmps d f x y) = match ev gl s (.cmps d f x y) with | some s' => K s' | none => False := rfl
theorem xo_on {m : Nat} {o : SOp} {s : St} {K : St → Prop} : opX P gl D s K (.on m o) = match ev gl s (.on m o) with | some s' => K s' | none => False := rfl
theorem xo_bad {d : Option Nat} {s : St} {K : St → Prop} : opX P gl D s K (.bad d) = match ev gl s (.bad d) with | some s' => K s' | none => False := rfl
end
attribute [go_sem ↓] x_skip x_reg x_seq x_cond x_block x_exit x_ret x_drop x_nil x_on x_og x_callP xo_mv xo_tk xo_nil_ xo_pick xo_bin xo_eqa xo_not_ xo_neg xo_conv xo_ext xo_len xo_alloc xo_box xo_allocH xo_boxH xo_boxI xo_build xo_lit xo_fa xo_ia xo_iaa xo_ld xo_ldt xo_st xo_stt xo_idx xo_slc xo_sla xo_app xo_nilchk xo_mkfn xo_mkself xo_allocT xo_cvt xo_mm xo_mkmap xo_look xo_lookT xo_upd xo_updT xo_mdel xo_rng xo_entr xo_litH xo_litO xo_mks xo_apph xo_appc xo_appd xo_isnil xo_clo xo_sdata xo_ustr xo_noesc xo_cmps xo_on xo_bad
attribute [go_sem] ev evO evOs okPut hasA isA St.put St.putB St.putO Env.get Env.ins Env.del Env.noAddr Env.close pEnv adr rdAt wrAt setCells AV.cells AV.noOwn AV.lst AV.pure1 AV.pure AV.arg AV.one AV.res intBin strBin binV bnd fillParts adrKind adrOf guardV dstOf retV retV1 retVs endQ
attribute [go_sem] List.all_cons List.all_nil List.any_cons List.any_nil List.map_cons List.map_nil List.take List.drop List.length_cons List.length_nil List.length_map List.getElem?_cons_zero List.getElem?_cons_succ Option.bind_some Option.bind_none Bool.and_true Bool.true_and Bool.and_false Bool.false_and Bool.or_true Bool.true_or Bool.or_false Bool.false_or Bool.not_true Bool.not_false
attribute [go_sem] true_and and_true and_self or_self or_false or_true false_or true_or if_true if_false ite_true ite_false decide_true decide_false Bool.false_eq_true List.contains_eq_mem List.mem_cons List.not_mem_nil Nat.zero_add Nat.add_zero Nat.lt_irrefl Nat.not_lt_zero
end AM
/-! Loops by invariants and measures; lists of terms. -/
namespace AM
open Go
section
variable {P : Program} {gl : Glob} {D : Dets}
theorem close_close (ts : List Nat) : ∀ e : Env, Env.close (Env.close e ts) ts = Env.close e ts
  | [] => rfl
  | (k, .a _ _) :: r => by simp only [Env.close]; exact close_close ts r
  | (k, .v x) :: r => by
    simp only [Env.close]
    by_cases h : ts.contains k = true
    · simp only [h, if_true]; exact close_close ts r
    · have h' : ts.contains k = false := by simpa using h
      simp only [h', Bool.false_eq_true, if_false, Env.close, close_close ts r]
  | (k, .b x) :: r => by
    simp only [Env.close]
    by_cases h : ts.contains k = true
    · simp only [h, if_true]; exact close_close ts r
    · have h' : ts.contains k = false := by simpa using h
      simp only [h', Bool.false_eq_true, if_false, Env.close, close_close ts r]
/-- A loop whose head drops temporaries. -/
theorem exec_loopD {ι : Type} {ts : List Nat} {c : SCode} {s : St} {Q : Ex → St → Prop} (E : ι → St) (Inv : ι → Prop) (r : ι → Nat) (i0 : ι) (hI : Inv i0) (h0 : ({ s with env := s.env.close ts } : St) = E i0)
    (step : ∀ i, Inv i → exec P gl D c (E i) fun e s' => match e with | .normal => ∃ j, Inv j ∧ r j < r i ∧ ({ s' with env := s'.env.close ts } : St) = E j | e => Q e s') :
    exec P gl D (.loop (.drop ts c)) s Q := by
  have key : ∀ n i, r i = n → Inv i → ∀ s : St, ({ s with env := s.env.close ts } : St) = E i → exec P gl D (.loop (.drop ts c)) s Q := by
    intro n
    induction n using Nat.strongRecOn with
    | _ n ih =>
      intro i hn hi s hs
      refine exec_loop ?_
      show exec P gl D c { s with env := s.env.close ts } _
      rw [hs]
      refine exec_mono c (step i hi) fun e s' h => ?_
      cases e with
      | normal =>
        obtain ⟨j, h1, h2, h3⟩ := h
        exact ih (r j) (by omega) j rfl h1 s' h3
      | exit k => exact h
      | ret => exact h
  exact key _ i0 rfl hI s h0
/-- A loop. -/
theorem exec_loopN {ι : Type} {c : SCode} {s : St} {Q : Ex → St → Prop} (E : ι → St) (Inv : ι → Prop) (r : ι → Nat) (i0 : ι) (hI : Inv i0) (h0 : s = E i0)
    (step : ∀ i, Inv i → exec P gl D c (E i) fun e s' => match e with | .normal => ∃ j, Inv j ∧ r j < r i ∧ s' = E j | e => Q e s') :
    exec P gl D (.loop c) s Q := by
  have key : ∀ n i, r i = n → Inv i → exec P gl D (.loop c) (E i) Q := by
    intro n
    induction n using Nat.strongRecOn with
    | _ n ih =>
      intro i hn hi
      refine exec_loop ?_
      refine exec_mono c (step i hi) fun e s' h => ?_
      cases e with
      | normal =>
        obtain ⟨j, h1, h2, h3⟩ := h
        rw [h3]
        exact ih (r j) (by omega) j rfl h1
      | exit k => exact h
      | ret => exact h
  rw [h0]
  exact key _ i0 rfl hI
end
theorem Tm.arg (t : Tm) : t.enc.arg = true := by rw [t.enc_eq]; rfl
theorem Tm.noOwn (t : Tm) : t.enc.noOwn = t.enc := by rw [t.enc_eq]; rfl
theorem Tm.cells_enc (t : Tm) : t.enc.cells = t.cells := by rw [t.enc_eq]; rfl
theorem encs_get (l : List Tm) (i : Nat) : (encs l)[i]? = (l[i]?).map Tm.enc := by rw [encs_map, List.getElem?_map]
theorem encs_len (l : List Tm) : (encs l).length = l.length := by rw [encs_map, List.length_map]
theorem wrap64 {n : Int} (h : -9223372036854775808 ≤ n) (h' : n < 9223372036854775808) : IntKind.i64.wrap n = n := by
  simp only [IntKind.wrap, IntKind.signed, IntKind.bits]
  simp
  omega
end AM
/-! Terms that are related to values have bounded lists; calls of which some result is known to exist. -/
namespace AM
open Go
mutual
/-- All lists and names of a term are no longer than M. -/
def Tm.bd : Tm → Prop | .mk n l => n.length ≤ M ∧ l.length ≤ M ∧ bds l
def bds : List Tm → Prop | [] => True | t :: r => t.bd ∧ bds r
end
theorem bds_get : ∀ {l : List Tm} {i : Nat} {t : Tm}, bds l → l[i]? = some t → t.bd
  | [], _, _, _, h => by simp at h
  | t :: r, 0, _, hb, h => by simp at h; subst h; simp only [bds] at hb; exact hb.1
  | t :: r, i + 1, _, hb, h => by simp only [bds] at hb; exact bds_get hb.2 (by simpa using h)
mutual
theorem Tm.bd_of {γ : Gam} : ∀ (t : Tm) {b off : Nat}, PRc γ b off t.cells → t.bd
  | .mk n l, b, off, h => by
    simp only [Tm.cells, Tm.name, Tm.args] at h
    cases h with
    | cons _ _ _ _ v h1 h2 h3 h4 => cases h4 with
      | cons _ _ _ _ v' h5 h6 h7 h8 =>
        simp only [Tm.bd]
        refine ⟨by cases h3 with | str _ h => exact h, ?_⟩
        generalize hx : encs l = xs at h7
        cases h7 with
        | list0 =>
          have : l = [] := by cases l with | nil => rfl | cons t r => simp [encs] at hx
          subst this; simp [bds]
        | list b' off' cap sz _ h9 h10 h11 =>
          rw [← hx, encs_len] at h9
          refine ⟨h9, ?_⟩
          rw [← hx] at h11
          exact bds_of l h11
theorem bds_of {γ : Gam} : ∀ (l : List Tm) {b off : Nat}, PRr γ b off 2 (encs l) → bds l
  | [], _, _, _ => by simp [bds]
  | t :: r, b, off, h => by
    simp only [encs] at h
    cases h with
    | cons _ _ _ _ _ h1 h2 h3 =>
      simp only [bds]
      rw [Tm.cells_enc] at h2
      exact ⟨t.bd_of h2, bds_of r h3⟩
end
theorem encL_bd {γ : Gam} {l : List Tm} {v : Value} (h : PR γ (encL l) v) : l.length ≤ M ∧ bds l := by
  unfold encL at h
  generalize hx : encs l = xs at h
  cases h with
  | list0 =>
    have : l = [] := by cases l with | nil => rfl | cons t r => simp [encs] at hx
    subst this; simp [bds]
  | list b' off' cap sz _ h9 h10 h11 =>
    rw [← hx] at h11
    rw [← hx, encs_len] at h9
    exact ⟨h9, bds_of l h11⟩
theorem encL_bd_vr {g : Gh} {l : List Tm} {v : Value} (h : VR g (encL l) v) : l.length ≤ M ∧ bds l := by
  unfold encL at h
  cases h with
  | pure _ _ h => exact encL_bd h
theorem Tm.bd_vr {g : Gh} {t : Tm} {v : Value} (h : VR g t.enc v) : t.bd := by
  obtain ⟨n, l⟩ := t
  simp only [Tm.enc] at h
  obtain ⟨ws, rfl, h1, _⟩ := h.agg_inv
  cases h1 with
  | cons _ _ v ws h2 h3 => cases h3 with
    | cons _ _ v' ws' h4 h5 =>
      simp only [Tm.bd]
      exact ⟨h2.str_len, encL_bd_vr h4⟩
section
variable {P : Program} {gl : Glob}
theorem Det.assume {f : Nat} {xs : List AV} {r : AV} {B : Prop} (hB : ∀ γ vs, VRs (gv γ) xs vs → B) (h : B → Det P gl f xs r) : Det P gl f xs r :=
  fun γ w vs h1 h2 h3 => h (hB γ vs h3) γ w vs h1 h2 h3
end
open Classical in
/-- Some number, or some bool, that a call gives. -/
noncomputable def dX (P : Program) (gl : Glob) : Dets := fun f xs =>
  if chkCallee P f = true ∧ xs.all AV.arg = true then
    (if h : ∃ n, Det P gl f xs (.int .i64 n) then some (.int .i64 h.choose) else if h : ∃ b, Det P gl f xs (.bool b) then some (.bool h.choose) else none)
  else none
section
variable {P : Program} {gl : Glob}
theorem dX_int {f : Nat} {xs : List AV} (hc : chkCallee P f = true) (ha : xs.all AV.arg = true) (h : ∃ n, Det P gl f xs (.int .i64 n)) : ∃ n, dX P gl f xs = some (.int .i64 n) ∧ Det P gl f xs (.int .i64 n) :=
  ⟨h.choose, by rw [dX, if_pos ⟨hc, ha⟩, dif_pos h], h.choose_spec⟩
theorem dX_bool {f : Nat} {xs : List AV} (hc : chkCallee P f = true) (ha : xs.all AV.arg = true) (h : ∃ b, Det P gl f xs (.bool b)) : (∃ n, dX P gl f xs = some (.int .i64 n) ∧ Det P gl f xs (.int .i64 n)) ∨ ∃ b, dX P gl f xs = some (.bool b) ∧ Det P gl f xs (.bool b) := by
  by_cases h1 : ∃ n, Det P gl f xs (.int .i64 n)
  · exact .inl (dX_int hc ha h1)
  · exact .inr ⟨h.choose, by rw [dX, if_pos ⟨hc, ha⟩, dif_neg h1, dif_pos h], h.choose_spec⟩
end
end AM
/-! Terms read back from data; the size of terms as the statements count it. -/
namespace AM
open Go
mutual
def decT : AV → Option Tm
  | .agg [.str n, .list none 2 l] => (decs l).map (.mk n)
  | _ => none
def decs : List AV → Option (List Tm)
  | [] => some []
  | x :: r => match decT x, decs r with | some t, some l => some (t :: l) | _, _ => none
end
mutual
theorem decT_enc : ∀ t : Tm, decT t.enc = some t
  | .mk n l => by simp only [Tm.enc, decT, decs_encs l, Option.map_some]
theorem decs_encs : ∀ l : List Tm, decs (encs l) = some l
  | [] => by simp only [encs, decs]
  | t :: r => by simp only [encs, decs, decT_enc t, decs_encs r]
end
mutual
theorem decT_eq : ∀ (x : AV) (t : Tm), decT x = some t → x = t.enc
  | .agg [.str n, .list none 2 l], t, h => by
    simp only [decT, Option.map_eq_some_iff] at h
    obtain ⟨l', h1, rfl⟩ := h
    simp only [Tm.enc, decs_eq l l' h1]
  | x, t, h => by
    unfold decT at h
    split at h
    · simp only [Option.map_eq_some_iff] at h
      obtain ⟨l', h1, rfl⟩ := h
      rename_i l
      simp only [Tm.enc, decs_eq l l' h1]
    · cases h
theorem decs_eq : ∀ (xs : List AV) (l : List Tm), decs xs = some l → xs = encs l
  | [], l, h => by simp only [decs, Option.some.injEq] at h; subst h; simp only [encs]
  | x :: r, l, h => by
    simp only [decs] at h
    split at h
    · rename_i t l' h1 h2
      simp only [Option.some.injEq] at h; subst h
      simp only [encs, decT_eq x t h1, decs_eq r l' h2]
    · cases h
end
/-- A list of terms. -/
def decL : AV → Option (List Tm)
  | .list none 2 l => decs l
  | _ => none
theorem decL_enc (l : List Tm) : decL (encL l) = some l := decs_encs l
theorem decL_eq {x : AV} {l : List Tm} (h : decL x = some l) : x = encL l := by
  unfold decL at h
  split at h
  · rw [decs_eq _ _ h]; rfl
  · cases h

/-! gameplayerplain.parts, Small, SmallTerms -/
def partsL (f : Tm → Int) (most : Int) : List Tm → Int → Int
  | [], n => n
  | t :: r, n => if n > most then n else partsL f most r (IntKind.i64.wrap (n + f t))
def partsF (most : Int) : Nat → Tm → Int
  | 0, _ => IntKind.i64.wrap (most + 1)
  | d + 1, t => partsL (partsF most d) most t.args 1
def smallF (most : Nat) (t : Tm) : Bool := decide (partsF most most t ≤ most)
def smallsF (most : Nat) (l : List Tm) : Bool := decide (l.length ≤ most) && l.all (smallF most)
end AM
