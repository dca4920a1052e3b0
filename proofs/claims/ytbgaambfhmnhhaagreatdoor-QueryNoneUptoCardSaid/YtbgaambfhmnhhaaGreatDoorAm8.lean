/- An abstract machine for the program of the seat, and what of the given program it does, part 9 of 16. Conditions: none. -/
import Derived.Test.YtbgaambfhmnhhaaGreatDoorAm7
import Derived.Lib.Builder
/-! The simulation of objects of a known type, and of their addresses as bare pointers. -/
namespace AM
open Go
section
variable {P : Program} {gl : Glob} {N : Nat} {g g' : Gh} {s s' : St} {a : Act} {w w' : World} {o : Oper}

def chkAllocT (P : Program) (N : Nat) (o : Oper) (d e : Nat) (z : List AV) : Bool := dstIs N o d && (match o.op with | .alloc e' => e' == e && zeroOk P e z && okElem P e z.length | _ => false)
theorem sim_allocT {d e : Nat} {z : List AV} (h : Rel P gl N g s a w) (hc : chkAllocT P N o d e z = true) (he : ev gl s (.allocT d e z) = some s') : Sim1 P gl N o g a w s' := by
  simp only [chkAllocT, Bool.and_eq_true] at hc
  obtain ⟨hd, hop⟩ := hc
  split at hop
  · rename_i e' ho
    simp only [Bool.and_eq_true, beq_iff_eq] at hop
    obtain ⟨⟨rfl, hz⟩, hok⟩ := hop
    obtain ⟨i, v, p1, p2, p3, p4, p5⟩ := zeroOk_spec (g := g) hz
    obtain ⟨i', z', r1, r2, r3, r4, r5, r6⟩ := okElem_spec hok
    rw [r1] at p1; simp at p1; subst p1
    rw [r4] at p2; simp at p2; subst p2
    simp only [ev] at he
    simp only [dstIs, Bool.and_eq_true, beq_iff_eq, decide_eq_true_eq] at hd
    obtain ⟨g', q1, q2, q3, _⟩ := h.allocBuf hok p3 p4 p5 (by rw [Array.length_toList, r5]; exact Nat.le_mul_of_pos_left _ (by decide))
    refine ⟨ptrTo w.heap.size 0, w.alloc (.cells z'.cells e'), g', .inl ?_, by simpa using q1, ?_⟩
    · simp only [execOp, ho, Sem.run_bind, run_alloc r1 r4, Result.andThen_ok, Sem.run_pure]
    · rw [hd.1]
      have := q2.put he hd.2 (.ptr _ 0 _ q3) (notOwn_ptr _ _).ownR
      simpa [ptrTo] using this
  · cases hop
theorem lies_self {P : Program} {e c : Nat} (h0 : P.cellsOf e ≠ 0) (hc : 1 ≤ c) : liesAt P P.depth e c 0 e 1 = true := by
  have hd : P.depth = (2 * (P.types.size + Made.depth) + 1) + 1 := rfl
  rw [hd]
  unfold liesAt
  have hs : sameLayout P P.depth e e = true := by
    rw [hd]; unfold sameLayout; simp
  have : rowAt P (fun t => sameLayout P P.depth t e) P.depth e c 0 1 = true := by
    conv => lhs; rw [show P.depth = (2 * (P.types.size + Made.depth) + 1) + 1 from rfl]
    unfold rowAt
    rw [← hd]
    simp [h0, hs, hc]
  rw [this]; rfl
def chkCvt (P : Program) (N : Nat) (o : Oper) (d : Nat) (x : Opd) (e sz : Nat) : Bool := dstIs N o d && okElem P e sz && (match o.op with
  | .convert sT dT x' => chkOpd x' x && (match P.underlying sT, P.underlying dT with | some (.pointer u), some .unsafePointer => u == e | some .unsafePointer, some (.pointer u) => u == e | _, _ => false)
  | _ => false)
theorem sim_cvt {d e sz : Nat} {x : Opd} (h : Rel P gl N g s a w) (hc : chkCvt P N o d x e sz = true) (he : ev gl s (.cvt d x e sz) = some s') : Sim1 P gl N o g a w s' := by
  simp only [chkCvt, Bool.and_eq_true] at hc
  obtain ⟨⟨hd, hok⟩, hop⟩ := hc
  obtain ⟨i, z, r1, r2, r3, r4, r5, r6⟩ := okElem_spec hok
  simp only [ev] at he
  split at he
  · rename_i id hx
    split at he
    · rename_i e' cs hid
      split at he
      · rename_i hh
        obtain ⟨rfl, hsz⟩ := hh
        obtain ⟨b, k, q1, q2, q3, ⟨arr, q4, q5⟩, _⟩ := h.heap _ _ hid
        have hlen : cs.length ≤ arr.size := by
          obtain ⟨arr', ty, p1, p2, _⟩ := q3
          rw [q4] at p1; simp at p1; rw [p1.1]; exact p2
        have hsh : w.shape? b = some (e', arr.size) := by simp [World.shape?, q4]
        split at hop
        · rename_i sT dT x' ho
          simp only [Bool.and_eq_true] at hop
          obtain ⟨hx', hty⟩ := hop
          have hv := evO_sound h hx' hx
          have hval : a.eval x' = ptrTo b 0 := by
            revert hv
            generalize a.eval x' = v
            intro hv
            cases hv with
            | pure _ _ hp => cases hp
            | ptr _ _ b' hb' => rw [q1] at hb'; simp at hb'; subst hb'; rfl
          have hcells : P.cellsOf e' = sz := by simp [Program.cellsOf, r1, r2]
          have hrun : (convert sT dT (.pointer (some ⟨b, 0, none⟩))).run P w = .ok (.pointer (some ⟨b, 0, none⟩)) w := by
            split at hty
            · rename_i u h1 h2
              simp at hty; subst hty
              exact Lib.run_to_unsafe w ⟨b, 0, none⟩ h1 h2 r1 (by omega) hsh (by show 0 < arr.size; omega)
            · rename_i u h1 h2
              simp at hty; subst hty
              refine Lib.run_from_unsafe w ⟨b, 0, none⟩ h1 h2 r1 hsh (lies_self (by omega) ?_)
              rw [hcells]
              exact (Nat.one_le_div_iff r3).2 (by omega)
            · cases hty
          refine .value h hd he (v := ptrTo b 0) ?_ (.ptr _ 0 _ q1) (fun _ _ _ h => by simp at h)
          simp only [execOp, ho, Sem.run_bind, hval, ptrTo, hrun, Result.andThen_ok, Sem.run_pure]
        · cases hop
      · cases he
    · cases he
  · cases he
end
end AM
/-! The abstract machine's code: regions, branches, loops; its meaning in the model. -/
namespace AM
open Go

/-- What may be handed to a function that is called without the heap. -/
def AV.arg : AV → Bool
  | .fn _ cs => cs.all AV.pure1
  | x => x.pure

def gv (γ : Gam) : Gh := ⟨γ, fun _ => .none, fun _ => none⟩
/-- The ghost behind a call: what is new belongs to the result. -/
def gr (γ : Gam) (n : Nat) : Gh := ⟨γ, fun b => if b < n then .outer else .var 0, fun _ => none⟩

/-- What a call without the heap leaves. -/
def DetPost (P : Program) (γ : Gam) (w : World) (r : AV) (e : Ending) (w' : World) : Prop :=
  ∃ v γ', e = .returned v ∧ GamLe γ γ' ∧ w.heap.size ≤ w'.heap.size ∧ (∀ b, b < w.heap.size → w'.heap[b]? = w.heap[b]? ∧ ∀ o, γ' b o = γ b o) ∧ ((w'.os, w'.tape) = (w.os, w.tape) ∧ w'.output = w.output) ∧
    (∀ b off v, γ' b off = some v → w'.cell? ⟨b, off, none⟩ = some v) ∧ VR (gr γ' w.heap.size) r v ∧ OwnR P (gr γ' w.heap.size) w' (.var 0) r v
/-- A call without the heap: it returns 'r', whatever the memory. -/
def Det (P : Program) (gl : Glob) (f : Nat) (xs : List AV) (r : AV) : Prop :=
  ∀ γ w vs, (∀ b off v, γ b off = some v → w.cell? ⟨b, off, none⟩ = some v) → (∀ n x, gl n = some x → PR γ x (ptrTo n 0)) → VRs (gv γ) xs vs →
    Calls P f vs.toArray w (DetPost P γ w r)

/-- A state of a heap alone. -/
def heapSt (H : List AObj) : St := ⟨[], H⟩
def noAct : Act := ⟨#[], []⟩
/-- What can be called. -/
def chkCallee (P : Program) (f : Nat) : Bool := match P.funcs[f]? with | some fn => fn.name != "runtime.NumGoroutine" && !fn.body.isNone | none => false
/-- A call over a heap: whatever the memory, it returns some 'r' and leaves some 'H'' of which 'K' holds. -/
def CallT (P : Program) (gl : Glob) (f : Nat) (xs : List AV) (H : List AObj) (K : AV → List AObj → Prop) : Prop :=
  chkCallee P f = true ∧ ∀ g w vs, Rel P gl 0 g (heapSt H) noAct w → VRs g xs vs → (∀ (i : Nat) x v, xs[i]? = some x → vs[i]? = some v → OwnR P g w (.var i) x v) →
    Calls P f vs.toArray w fun e w' => ∃ v r H' g', e = .returned v ∧ K r H' ∧ GLe g w g' w' ∧ Rel P gl 0 g' (heapSt H') noAct w' ∧ VR g' r v ∧ OwnR P g' w' (.var 0) r v

/-- The same, with an outcome. -/
def CallE (P : Program) (gl : Glob) (f : Nat) (xs : List AV) (H : List AObj) (K : AV → List AObj → Prop) : Prop := CallT P gl f xs H K ∧ ∃ r H', K r H'

theorem CallT.mono {P : Program} {gl : Glob} {f : Nat} {xs : List AV} {H : List AObj} {K K' : AV → List AObj → Prop} (h : CallT P gl f xs H K) (hk : ∀ r H, K r H → K' r H) : CallT P gl f xs H K' :=
  ⟨h.1, fun g w vs h1 h2 h3 => (h.2 g w vs h1 h2 h3).mono fun _ _ ⟨v, r, H', g', q1, q2, q3⟩ => ⟨v, r, H', g', q1, hk _ _ q2, q3⟩⟩
theorem CallE.mono {P : Program} {gl : Glob} {f : Nat} {xs : List AV} {H : List AObj} {K K' : AV → List AObj → Prop} (h : CallE P gl f xs H K) (hk : ∀ r H, K r H → K' r H) : CallE P gl f xs H K' :=
  ⟨h.1.mono hk, h.2.elim fun r ⟨H', h⟩ => ⟨r, H', hk _ _ h⟩⟩

def dstOf : SOp → Option Nat
  | .mv d _ | .tk d _ | .nil_ d _ _ | .pick d _ _ _ | .bin d _ _ _ _ | .eqa d _ _ _ _ | .not_ d _ | .neg d _ | .conv d _ _ | .ext d _ _ | .len d _ _ | .alloc d _ | .box d _ | .allocH d _ | .boxH d _ | .boxI d _
  | .build d _ _ | .lit d _ _ | .fa d _ _ | .ia d _ _ _ | .iaa d _ _ _ _ | .ld d _ _ _ | .ldt d _ _ _ | .idx d _ _ | .slc d _ _ _ _ | .sla d _ _ _ _ _ | .app d _ _ _ _ | .nilchk d _ | .mkfn d _ _ | .mkself d _ _ _ | .mm d _ _ _
  | .mkmap d | .look _ d _ _ _ _ | .lookT _ d _ _ _ | .rng d _ | .nxt d _ | .entr d _ | .litH d _ _ _ | .litO d _ _ _ | .mks d _ _ _ | .allocT d _ _ | .cvt d _ _ _ | .apph d _ _ _ _ _ | .appc d _ _ _ _ | .appd d _ _ _ _ | .clo d _ _ | .isnil d _ _ | .sdata d _ | .ustr d _ _ _ | .noesc d _ _ | .cmps d _ _ _ => some d
  | .st _ _ _ | .stt _ _ | .upd _ _ _ _ | .updT _ _ _ _ => none
  | .mdel _ d _ _ | .callP d _ _ | .callI d _ _ | .callV d _ _ | .callR d _ _ | .callG d _ _ _ | .bad d => d
  | .on _ o => dstOf o

/-- ghost: the object that t holds is not used any more -/
def killS (s : St) (t : Nat) : St := match Env.get s.env t with
  | some (.v (.ptr id 0)) => { s with heap := s.heap.set id .dead }
  | some (.v (.map id)) => { s with heap := s.heap.set id .dead }
  | _ => s
def guardV (env : Env) : Option (Nat × Bool) → Option Bool
  | none => some true
  | some (t, want) => match Env.get env t with | some (.v (.bool b)) => some (b == want) | some (.v (.tup [])) => some false | _ => none

/-- What pure calls give. -/
abbrev Dets := Nat → List AV → Option AV
section
variable (P : Program) (gl : Glob) (D : Dets)
def opX (s : St) (K : St → Prop) : SOp → Prop
  | .callP d f xs => match evOs gl s.env xs with
    | some vs => (vs.map AV.noOwn).all AV.arg = true ∧ (match D f (vs.map AV.noOwn) with
      | some r => Det P gl f (vs.map AV.noOwn) r ∧ (match s.putO d r with | some s' => K s' | none => False)
      | none => False)
    | none => False
  | .callI d f xs => match evOs gl s.env xs with
    | some vs => CallE P gl f (vs.map AV.noOwn) s.heap fun r H' => match ({ s with heap := H' }).putO d r with | some s' => K s' | none => False
    | none => False
  | .callR d f xs => match evOs gl s.env xs with
    | some vs => CallE P gl f (vs.map AV.noOwn) s.heap fun r H' => (∃ n, H' = s.heap ++ List.replicate n .dead) ∧ match ({ s with heap := H' }).putO d r with | some s' => K s' | none => False
    | none => False
  | .callG d f u xs => match Env.get s.env u, evOs gl s.env xs with
    | some (.v (.list (some e) sz ys)), some vs => CallE P gl f (.list (some e) sz ys :: vs.map AV.noOwn) s.heap fun r H' => match (⟨s.env.ins u (.v (.list none sz ys)), H'⟩ : St).putO d r with | some s' => K s' | none => False
    | some (.v v), some vs => CallE P gl f (v.noOwn :: vs.map AV.noOwn) s.heap fun r H' => match ({ s with heap := H' } : St).putO d r with | some s' => K s' | none => False
    | _, _ => False
  | .nxt d it => match (evO gl s.env it).bind (cands s.heap) with
    | some (id, m, since, seen, es) => match es with
      | [] => (match s.put d (.tup [.bool false]) with | some s' => K s' | none => False)
      | e0 :: es => ∀ e ∈ e0 :: es, match ({ s with heap := s.heap.set id (.iter m since (seen ++ [e.1])) } : St).put d (.tup [.bool true, e.1, e.2.noOwn]) with | some s' => K s' | none => False
    | none => False
  | .callV d x xs => match evO gl s.env x, evOs gl s.env xs with
    | some (.fn f caps), some vs => CallE P gl f (vs.map AV.noOwn ++ caps.map AV.noOwn) s.heap fun r H' => match ({ s with heap := H' }).putO d r with | some s' => K s' | none => False
    | _, _ => False
  | o => match ev gl s o with | some s' => K s' | none => False
def runR : List It → St → (St → Prop) → Prop
  | [], s, K => K s
  | it :: r, s, K => match guardV s.env it.g with
    | some true => opX P gl D s (fun s' => runR r s' K) it.o
    | some false => (match dstOf it.o with
      | some d => (match s.put d (.tup []) with | some s' => runR r s' K | none => False)
      | none => runR r s K)
    | none => False
/-- Loops: the least meaning. -/
def loopX (F : St → (Ex → St → Prop) → Prop) (s : St) (Q : Ex → St → Prop) : Prop :=
  ∀ X : St → Prop, (∀ s, F s (fun e s' => match e with | .normal => X s' | e => Q e s') → X s) → X s
def exec : SCode → St → (Ex → St → Prop) → Prop
  | .skip, s, Q => Q .normal s
  | .reg its dr, s, Q => runR P gl D its s fun s' => Q .normal { s' with env := s'.env.close dr }
  | .seq a b, s, Q => exec a s fun e s' => match e with | .normal => exec b s' Q | e => Q e s'
  | .cond c a b, s, Q => match evO gl s.env c with
    | some (.bool t) => if t = true then exec a s Q else exec b s Q
    | _ => False
  | .block id c, s, Q => exec c s fun e s' => match e with | .exit i => if i = id then Q .normal s' else Q (.exit i) s' | e => Q e s'
  | .loop c, s, Q => loopX (fun s Q => exec c s Q) s Q
  | .exit id, s, Q => Q (.exit id) s
  | .ret, s, Q => Q .ret s
  | .asm t c, s, Q => (match Env.get s.env t with
      | some (.v (.list _ _ xs)) => xs.length ≤ M → exec c s Q
      | some (.v (.str l)) => l.length ≤ M → exec c s Q
      | _ => False)
  | .drop ts c, s, Q => exec c { s with env := s.env.close ts } Q
  | .frz t e sz c, s, Q => (match frzS s t e sz with | some s' => exec c s' Q | none => False)
  | .frzb t off e sz c, s, Q => (match frzbS s t off e sz with | some s' => exec c s' Q | none => False)
  | .kill t c, s, Q => exec c (killS s t) Q
  | .bad, _, _ => False
end

/-- Results. -/
inductive RV where
  | t (n : Nat)
  | b (n sz : Nat)
def retV1 (env : Env) : RV → Option AV
  | .t n => match Env.get env n with | some (.v x) => some x | _ => none
  | .b n sz => match Env.get env n with | some (.b cs) => if cs.length = sz then some (.agg (cs.map AV.noOwn)) else none | _ => none
def retVs (env : Env) : List RV → Option (List AV)
  | [] => some []
  | r :: rs => match retV1 env r, retVs env rs with | some x, some xs => some (x.noOwn :: xs) | _, _ => none
def retV (env : Env) : List RV → Option AV
  | [r] => retV1 env r
  | rs => (retVs env rs).map .tup

-- the checker
section
variable (P : Program) (N : Nat)
def chkDstO (N : Nat) (o : Oper) : Option Nat → Bool
  | some d => dstIs N o d
  | none => o.dst == none
def chkOp (o : Oper) : SOp → Bool
  | .mv d x => chkCopy N o d x
  | .tk d x => chkCopy N o d (.t x)
  | .nil_ d e sz => chkNil P N o d e sz
  | .pick d c a b => chkPick N o d c a b
  | .bin d m op x y => chkBin P N o d m op x y
  | .eqa d ne ks x y => chkEqa P N o d ne ks x y
  | .not_ d x => chkNot N o d x
  | .neg d x => chkNeg N o d x
  | .conv d k x => chkConv P N o d k x
  | .ext d x i => chkExt N o d x i
  | .len d m x => chkLen P N o d m x
  | .alloc d z => chkAlloc P N o d z
  | .box d x => chkBox N o d x
  | .allocH d z => chkAllocH P N o d z
  | .boxH d x => chkBoxH N o d x
  | .build d z parts => chkBuild P N o d z parts
  | .lit d sz xs => chkLit P N o d sz xs
  | .fa d x off => chkFa P N o d x off
  | .ia d sz x i => chkIa P N o d sz x i
  | .ld d x n ag => chkLd P N o d x n ag
  | .ldt d x e sz => chkLdt P N o d x e sz
  | .st n x v => chkSt P o n x v
  | .stt x v => chkSt P o 1 x (.t v)
  | .idx d x i => chkIdx P N o d x i
  | .slc d sz x lo hi => chkSlc P N o d sz x lo hi
  | .app d u x e sz => chkApp P N o d u x e sz
  | .nilchk d x => chkNilchk N o d x
  | .mkfn d f caps => chkMkfn N o d f caps
  | .mkself d c e sz => chkMkself P N o d c e sz
  | .mm d mx x y => chkMm N o d mx x y
  | .allocT d e z => chkAllocT P N o d e z
  | .cvt d x e sz => chkCvt P N o d x e sz
  | .mkmap d => chkMkmap N o d
  | .look ks d m k zero ok => chkLook P N o ks d m k zero ok
  | .lookT ks d m k zero => chkLookT P N o ks d m k zero
  | .upd ks m k v => chkUpd P o ks m k v
  | .updT ks m k v => chkUpdT P o ks m k v
  | .mdel ks d m k => chkMdel P N o ks d m k
  | .rng d m => chkRng P N o d m
  | .nxt d it => chkNxt N o d it
  | .entr d it => chkEntr N o d it
  | .clo d x sz => chkClo P N o d x sz
  | .appc d u x e sz => chkAppc P N o d u x e sz
  | .appd d u x e sz => chkAppc P N o d u x e sz
  | .apph d e sz sb u x => chkApph P N o d e sz sb u x
  | .sdata d x => chkSdata N o d x
  | .ustr d e x n => chkUstr P N o d e x n
  | .noesc d f x => chkExt1 P N o d f "internal/abi.NoEscape" [x]
  | .cmps d f x y => chkExt1 P N o d f "internal/bytealg.abigen_runtime_cmpstring" [x, y]
  | .callP d f xs | .callI d f xs | .callR d f xs => chkDstO N o d && chkCallee P f && (match o.op with | .call c => (match c.callee with | .value (.func f') => f' == f && chkOpds c.args.toList xs | _ => false) | _ => false)
  | .callG d f u xs => chkDstO N o d && chkCallee P f && (match o.op with | .call c => (match c.callee with | .value (.func f') => f' == f && chkOpds c.args.toList (.t u :: xs) | _ => false) | _ => false)
  | .callV d x xs => chkDstO N o d && (match o.op with | .call c => (match c.callee with | .value y => chkOpd y x && chkOpds c.args.toList xs | _ => false) | _ => false)
  | .boxI d x => chkBox N o d x
  | .isnil d ne x => chkIsnil P N o d ne x
  | .litO d e sz xs => chkLitO P N o d e sz xs
  | .iaa d x n sz i => chkIaa P N o d x n sz i
  | .sla d x n sz lo hi => chkSla P N o d x n sz lo hi
  | .litH d e sz xs => chkLitH P N o d e sz xs
  | .mks d e z x => chkMks P N o d e z x
  | .on _ so => chkOp o so
  | .bad _ => true
def chkGuard (ops : Array Oper) (o : Oper) (it : It) : Bool :=
  match o.guard, it.g with
  | none, none => true
  | some (j, want), some (t, want') => want == want' && ((ops[j]?).bind (·.dst)) == some t
  | _, _ => false
def chkDst (o : Oper) (so : SOp) : Bool := match dstOf so with | some d => o.dst == some d && decide (d < N) | none => o.dst == none
def chkIts (ops : Array Oper) : List Oper → List It → Bool
  | [], [] => true
  | o :: os, it :: its => chkGuard ops o it && chkDst N o it.o && chkOp P N o it.o && chkIts ops os its
  | _, _ => false
end
end AM
/-! The abstract machine's steps are the model's: operations, calls, regions. -/
namespace AM
open Go
section
variable {P : Program} {gl : Glob} {D : Dets} {N : Nat} {g g' : Gh} {s s' : St} {a : Act} {w w' : World} {o : Oper}

theorem ev_sim {so : SOp} (h : Rel P gl N g s a w) (hc : chkOp P N o so = true) (he : ev gl s so = some s') : Sim1 P gl N o g a w s' := by
  cases so <;> simp only [chkOp] at hc
  case mv d x => exact sim_mv h hc he
  case tk d x => exact sim_tk h hc he
  case nil_ d e sz => exact sim_nil h hc he
  case pick d c a b => exact sim_pick h hc he
  case bin d m op x y => exact sim_bin h hc he
  case eqa d ne ks x y => exact sim_eqa h hc he
  case not_ d x => exact sim_not h hc he
  case neg d x => exact sim_neg h hc he
  case conv d k x => exact sim_conv h hc he
  case ext d x i => exact sim_ext h hc he
  case len d m x => exact sim_len h hc he
  case alloc d z => exact sim_alloc h hc he
  case box d x => exact sim_box h hc he
  case allocH d z => exact sim_allocH h hc he
  case boxH d x => exact sim_boxH h hc he
  case build d z parts => exact sim_build h hc he
  case lit d sz xs => exact sim_lit h hc he
  case fa d x off => exact sim_fa h hc he
  case ia d sz x i => exact sim_ia h hc he
  case ld d x n ag => exact sim_ld h hc he
  case ldt d x e sz => exact sim_ldt h hc he
  case st n x v => exact sim_st h hc he
  case stt x v => exact sim_stt h hc he
  case idx d x i => exact sim_idx h hc he
  case slc d sz x lo hi => exact sim_slc h hc he
  case app d u x e sz => exact sim_app h hc he
  case nilchk d x => exact sim_nilchk h hc he
  case mkfn d f caps => exact sim_mkfn h hc he
  case mkself d c e sz => exact sim_mkself h hc he
  case mm d mx x y => exact sim_mm h hc he
  case bad => cases he
  case on m so' =>
    simp only [ev] at he
    split at he
    · exact ev_sim h hc he
    · cases he
  case litH d e sz xs => exact sim_litH h hc he
  case mks d e z x => exact sim_mks h hc he
  case iaa d x n sz i => exact sim_iaa h hc he
  case sla d x n sz lo hi => exact sim_sla h hc he
  case boxI d x => exact sim_boxI h hc he
  case isnil d ne x => exact sim_isnil h hc he
  case litO d e sz xs => exact sim_litO h hc he
  case callP => cases he
  case callI => cases he
  case callV => cases he
  case callR => cases he
  case callG => cases he
  case nxt => cases he
  case mkmap d => exact sim_mkmap h hc he
  case look ks d m k zero ok => exact sim_look h hc he
  case lookT ks d m k zero => exact sim_lookT h hc he
  case upd ks m k v => exact sim_upd h hc he
  case updT ks m k v => exact sim_updT h hc he
  case mdel ks d m k => exact sim_mdel h hc he
  case rng d m => exact sim_rng h hc he
  case entr d it => exact sim_entr h hc he
  case clo d x sz => exact sim_clo h hc he
  case appc d u x e sz => exact sim_appc h hc he
  case appd d u x e sz => exact sim_appd h hc he
  case apph d e sz sb u x => exact sim_apph h hc he
  case sdata d x => exact sim_sdata h hc he
  case ustr d e x n => exact sim_ustr h hc he
  case allocT d e z => exact sim_allocT h hc he
  case cvt d x e sz => exact sim_cvt h hc he
  case noesc d f x => exact sim_noesc h hc he
  case cmps d f x y => exact sim_cmps h hc he

/-- What follows an operation. -/
def Post (P : Program) (gl : Glob) (N : Nat) (g : Gh) (w : World) (K : St → Prop) (a' : Act) (w' : World) : Prop := ∃ s' g', K s' ∧ GLe g w g' w' ∧ Rel P gl N g' s' a' w'

theorem Sim1.wp {K : St → Prop} {Q : Exit → Act → World → Prop} (h : Sim1 P gl N o g a w s') (hK : K s') : o.wp P a w (Post P gl N g w K) Q := by
  obtain ⟨v, w', g', hr, h1, h2⟩ := h
  unfold Oper.wp
  rcases hr with hr | ⟨hr, rfl⟩
  · rw [hr]; exact ⟨s', g', hK, h1, h2⟩
  · rw [hr]; exact ⟨s', g', hK, h1, h2⟩

theorem chkCallee_spec {f : Nat} (h : chkCallee P f = true) : ∃ fn, P.funcs[f]? = some fn ∧ (fn.name == "runtime.NumGoroutine") = false ∧ fn.body.isNone = false := by
  unfold chkCallee at h
  split at h
  · rename_i fn hf
    simp only [Bool.and_eq_true, bne_iff_ne, Bool.not_eq_true'] at h
    exact ⟨fn, hf, by simpa using h.1, h.2⟩
  · cases h
theorem run_callFunc {f : Nat} {args : Array Value} (h : chkCallee P f = true) : (callFunc f args).run P w = .ok (.enter f args) w := by
  obtain ⟨fn, h1, h2, h3⟩ := chkCallee_spec h
  simp only [callFunc, Sem.run_bind, run_program, Result.andThen_ok, h1, h2, Bool.false_eq_true, if_false, h3, Sem.run_pure]

theorem VRs.pure1_gv {cs : List AV} {ws : List Value} (h : VRs g cs ws) (hx : cs.all AV.pure1 = true) : VRs (gv g.γ) cs ws := by
  induction ws generalizing cs with
  | nil => cases h; exact .nil
  | cons u us ih => cases h with
    | cons c cs _ _ h1 h2 =>
      simp only [List.all_cons, Bool.and_eq_true] at hx
      exact .cons _ _ _ _ (.pure _ _ (h1.pure1_pr hx.1)) (ih h2 hx.2)
theorem arg_vr {x : AV} {v : Value} (h : VR g x v) (hx : x.arg = true) : VR (gv g.γ) x v := by
  by_cases hf : ∃ f cs, x = .fn f cs
  · obtain ⟨f, cs, rfl⟩ := hf
    cases h with
    | pure _ _ h => cases h
    | fn _ _ ws h => exact .fn _ _ _ (h.pure1_gv hx)
  · have : x.pure = true := by cases x <;> first | exact hx | exact absurd ⟨_, _, rfl⟩ hf
    exact .pure _ _ (h.pure_pr this)
theorem args_vrs {xs : List AV} {vs : List Value} (h : VRs g xs vs) (hx : xs.all AV.arg = true) : VRs (gv g.γ) xs vs := by
  induction vs generalizing xs with
  | nil => cases h; exact .nil
  | cons u us ih => cases h with
    | cons c cs _ _ h1 h2 =>
      simp only [List.all_cons, Bool.and_eq_true] at hx
      exact .cons _ _ _ _ (arg_vr h1 hx.1) (ih h2 hx.2)

/-- A result goes to its temporary. -/
theorem Rel.putO (h : Rel P gl N g s a w) {d : Option Nat} {x : AV} {v : Value} (hp : s.putO d x = some s') (hd : chkDstO N o d = true) (hv : VR g x v) (ho : OwnR P g w (.var (d.getD 0)) x v) :
    Rel P gl N g s' (a.put o.dst v) w := by
  cases d with
  | none =>
    simp [St.putO] at hp; subst hp
    simp only [chkDstO, beq_iff_eq] at hd
    rw [hd]; exact h
  | some d =>
    simp only [chkDstO, dstIs, Bool.and_eq_true, beq_iff_eq, decide_eq_true_eq] at hd
    rw [hd.1]
    exact h.put hp hd.2 hv ho

theorem det_wp {d : Option Nat} {f : Nat} {xs : List Opd} {us : List AV} {r : AV} {K : St → Prop} {Q : Exit → Act → World → Prop} (h : Rel P gl N g s a w)
    (hc : chkOp P N o (.callP d f xs) = true) (he : evOs gl s.env xs = some us) (ha : (us.map AV.noOwn).all AV.arg = true) (hd : Det P gl f (us.map AV.noOwn) r) (hp : s.putO d r = some s') (hK : K s') :
    o.wp P a w (Post P gl N g w K) Q := by
  simp only [chkOp, Bool.and_eq_true] at hc
  obtain ⟨⟨hdst, hcal⟩, hop⟩ := hc
  split at hop
  · rename_i c ho
    split at hop
    · rename_i f' hcl
      simp only [Bool.and_eq_true, beq_iff_eq] at hop
      obtain ⟨rfl, hxs⟩ := hop
      have hargs := (evOs_sound h hxs he).noOwn
      have hrun : (execOp a.eval o).run P w = .ok (.enter f' (c.args.toList.map a.eval).toArray) w := by
        have e : (List.map a.eval c.args.toList).toArray = c.args.map a.eval := by apply Array.ext'; simp
        simp only [execOp, ho, resolve, hcl, Act.eval, Deferred.ofValue, Sem.run_bind, Sem.run_pure, Result.andThen_ok, invoke]
        rw [run_callFunc hcal]
        simp only [Result.ok.injEq, Next.enter.injEq, true_and, and_true]
        rw [← e]; simp
      unfold Oper.wp
      rw [hrun]
      refine (hd g.γ w _ h.gam h.glob (args_vrs hargs ha)).mono fun e w' hpost => ?_
      obtain ⟨v, γ', rfl, h1, h2, h3, hos, h4, h5, h6⟩ := hpost
      let g1 : Gh := ⟨γ', fun b => if b < w.heap.size then g.Ω b else if v.ownBlock = some b then .var (d.getD 0) else .none, g.ρ⟩
      have hle : GhLe g g1 := ⟨h1, fun _ _ h => h⟩
      have hsame : ∀ b, g.Ω b ≠ .none → g1.Ω b = g.Ω b ∧ w'.heap[b]? = w.heap[b]? ∧ ∀ o, g1.γ b o = g.γ b o := fun b hb => by
        have hlt := h.own b hb
        exact ⟨by simp [g1, hlt], (h3 b hlt).1, (h3 b hlt).2⟩
      have hown : ∀ b, v.ownBlock = some b → (∃ e sz xs, r = .list (some e) sz xs) → b < w'.heap.size ∧ w.heap.size ≤ b := by
        intro b hb ⟨e, sz, xs, hr⟩
        obtain ⟨i, z, vs, p1, p2, p3, p4, p5, p6, p7, p8, p9⟩ := h6 e sz xs hr
        have q := (p9 b hb).1
        refine ⟨(p8.lt b hb).2, ?_⟩
        simp only [gr] at q
        by_cases hlt : b < w.heap.size
        · simp [hlt] at q
        · omega
      -- without ownership the block of the result is nobody's
      by_cases hr : ∃ e sz xs, r = .list (some e) sz xs
      · have hrel : Rel P gl N g1 s a w' := h.step .none (PosFree.none s) hle (fun b hb => hsame b hb.1) h4 (fun b hb => by
          by_cases hlt : b < w.heap.size
          · omega
          · simp [g1, hlt] at hb; exact (hown b hb hr).1) h.rho
        refine ⟨s', g1, hK, ⟨hle, fun b hb => ?_, h2, hos.1, hos.2⟩, ?_⟩
        · obtain ⟨q1, q2, q3⟩ := hsame b (by rw [hb]; simp); exact ⟨q1.trans hb, q2, q3⟩
        · refine hrel.putO hp hdst (h5.mono (⟨fun _ _ _ h => h, fun _ _ h => by cases h⟩ : GhLe (gr γ' w.heap.size) g1)) ?_
          intro e sz xs hx
          obtain ⟨i, z, vs, p1, p2, p3, p4, p5, p6, p7, p8, p9⟩ := h6 e sz xs hx
          refine ⟨i, z, vs, p1, p2, p3, p4, p5, p6, p7, p8, fun b hb => ?_⟩
          have q := hown b hb hr
          exact ⟨by simp [g1, show ¬ b < w.heap.size by omega, hb], (p9 b hb).2⟩
      · let g2 : Gh := ⟨γ', fun b => if b < w.heap.size then g.Ω b else .none, g.ρ⟩
        have hle2 : GhLe g g2 := ⟨h1, fun _ _ h => h⟩
        have hsame2 : ∀ b, g.Ω b ≠ .none → g2.Ω b = g.Ω b ∧ w'.heap[b]? = w.heap[b]? ∧ ∀ o, g2.γ b o = g.γ b o := fun b hb => by
          have hlt := h.own b hb
          exact ⟨by simp [g2, hlt], (h3 b hlt).1, (h3 b hlt).2⟩
        have hrel : Rel P gl N g2 s a w' := h.step .none (PosFree.none s) hle2 (fun b hb => hsame2 b hb.1) h4 (fun b hb => by
          by_cases hlt : b < w.heap.size
          · omega
          · simp [g2, hlt] at hb) h.rho
        refine ⟨s', g2, hK, ⟨hle2, fun b hb => ?_, h2, hos.1, hos.2⟩, ?_⟩
        · obtain ⟨q1, q2, q3⟩ := hsame2 b (by rw [hb]; simp); exact ⟨q1.trans hb, q2, q3⟩
        · exact hrel.putO hp hdst (h5.mono (⟨fun _ _ _ h => h, fun _ _ h => by cases h⟩ : GhLe (gr γ' w.heap.size) g2)) (.of_ne fun e sz xs hx => hr ⟨e, sz, xs, hx⟩)
    · cases hop
  · cases hop
end
end AM
/-! The abstract machine's calls over the heap, regions and code are the model's. -/
namespace AM
open Go
section
variable {P : Program} {gl : Glob} {D : Dets} {N : Nat} {g g' : Gh} {s s' : St} {a : Act} {w w' : World} {o : Oper}

/-- What a frame holds for itself, seen from outside. -/
def Owner.out : Owner → Owner
  | .none => .none
  | .ob id => .ob id
  | .oc id i => .oc id i
  | _ => .outer
def Gh.out (g : Gh) : Gh := ⟨g.γ, fun b => (g.Ω b).out, g.ρ⟩
theorem out_none {x : Owner} (h : x.out ≠ .none) : x ≠ .none := by rintro rfl; exact h rfl

theorem Rel.heapOnly (h : Rel P gl N g s a w) : Rel P gl 0 g.out (heapSt s.heap) noAct w := by
  refine ⟨.nil, rfl, rfl, fun t e he => by simp [heapSt, Env.get] at he, fun id ob hob => ?_, h.gam, fun b hb => h.own b (out_none hb), h.glob, h.rho⟩
  exact (h.heap id ob hob).kept (g' := g.out) (w' := w) (K := fun o => (∃ i, o = .ob i) ∨ ∃ i j, o = .oc i j) ⟨fun _ _ _ h => h, fun _ _ h => h⟩
    (fun b hb => ⟨by rcases hb with ⟨i, hb⟩ | ⟨i, j, hb⟩ <;> simp [Gh.out, hb, Owner.out], rfl, fun _ => rfl⟩) (fun i => .inl ⟨i, rfl⟩) (fun i => .inr ⟨_, i, rfl⟩)

/-- The heap alone, over owners that agree for it. -/
theorem Rel.heapOver (h : Rel P gl N g s a w) (Ω : Nat → Owner) (hO : ∀ b, (∃ id, g.Ω b = .ob id) ∨ (∃ id i, g.Ω b = .oc id i) → Ω b = g.Ω b) (hb : ∀ b, Ω b ≠ .none → b < w.heap.size) :
    Rel P gl 0 ⟨g.γ, Ω, g.ρ⟩ (heapSt s.heap) noAct w := by
  refine ⟨.nil, rfl, rfl, fun t e he => by simp [heapSt, Env.get] at he, fun id ob hob => ?_, h.gam, hb, h.glob, h.rho⟩
  refine (h.heap id ob hob).kept (g' := ⟨g.γ, Ω, g.ρ⟩) (w' := w) (K := fun o => (∃ i, o = .ob i) ∨ ∃ i j, o = .oc i j) ⟨fun _ _ _ h => h, fun _ _ h => h⟩ (fun b hb => ⟨hO b ?_, rfl, fun _ => rfl⟩) (fun i => .inl ⟨i, rfl⟩) (fun i => .inr ⟨id, i, rfl⟩)
  exact hb

/-- A call over the heap; some blocks that are nobody's may be handed over. -/
theorem callT_wp' {d : Option Nat} {f : Nat} {xs : List AV} {vs : List Value} {K : St → Prop} {Q : Exit → Act → World → Prop} (h : Rel P gl N g s a w) (hd : chkDstO N o d = true)
    (hr : (execOp a.eval o).run P w = .ok (.enter f vs.toArray) w) (Ω : Nat → Owner) (hΩ : ∀ b, g.Ω b ≠ .none → Ω b = (g.Ω b).out) (hΩ' : ∀ b, Ω b ≠ .none → b < w.heap.size)
    (hv : VRs ⟨g.γ, Ω, g.ρ⟩ xs vs) (hn : ∀ (i : Nat) x v, xs[i]? = some x → vs[i]? = some v → OwnR P ⟨g.γ, Ω, g.ρ⟩ w (.var i) x v)
    (hC : CallT P gl f xs s.heap fun r H' => match ({ s with heap := H' } : St).putO d r with | some s' => K s' | none => False) : o.wp P a w (Post P gl N g w K) Q := by
  unfold Oper.wp
  rw [hr]
  have hout : ∀ b, (g.Ω b).out = .outer → Ω b = .outer := fun b hb => by rw [hΩ b (fun e => by rw [e] at hb; cases hb), hb]
  have hheap := h.heapOver Ω (fun b hb => by
    rcases hb with ⟨id, hb⟩ | ⟨id, i, hb⟩ <;> rw [hΩ b (by rw [hb]; simp), hb] <;> rfl) hΩ'
  refine (hC.2 ⟨g.γ, Ω, g.ρ⟩ w vs hheap hv hn).mono fun e w' hpost => ?_
  obtain ⟨v, r, H', g', rfl, hK, hle, hrel, hvr, hor⟩ := hpost
  split at hK
  · rename_i s' hs'
    let g1 : Gh := ⟨g'.γ, fun b => if (g.Ω b).out = .outer then g.Ω b else if g'.Ω b = .var 0 then .var (d.getD 0) else g'.Ω b, g'.ρ⟩
    have hle1 : GhLe g g1 := ⟨hle.γ, hle.ρ⟩
    have hle2 : GhLe g' g1 := ⟨fun _ _ _ h => h, fun _ _ h => h⟩
    have hloc : ∀ b, (g.Ω b).out = .outer → g1.Ω b = g.Ω b ∧ w'.heap[b]? = w.heap[b]? ∧ ∀ o, g1.γ b o = g.γ b o := fun b hb => by
      obtain ⟨q1, q2, q3⟩ := hle.outer b (hout b hb)
      exact ⟨by simp [g1, hb], q2, q3⟩
    have hk : Kept g w g1 w' fun o => o.out = .outer := fun b hb => hloc b hb
    have hR : Rel P gl N g1 { s with heap := H' } a w' := by
      refine ⟨h.sorted, h.size, h.defers, fun t e he => (h.env t e he).kept hle1 hk rfl rfl (fun _ => rfl), fun id ob hob => ?_, hrel.gam, fun b hb => ?_, fun n x hx => hrel.glob n x hx, hrel.rho⟩
      · have h1 := hrel.heap id ob hob
        have hk2 : Kept g' w' g1 w' fun o => (∃ i, o = .ob i) ∨ ∃ i j, o = .oc i j := fun b hb => by
          have hno : (g.Ω b).out ≠ .outer := fun e => by
            have := (hle.outer b (hout b e)).1
            rcases hb with ⟨i, hb⟩ | ⟨i, j, hb⟩ <;> rw [this] at hb <;> cases hb
          refine ⟨?_, rfl, fun _ => rfl⟩
          rcases hb with ⟨i, hb⟩ | ⟨i, j, hb⟩ <;> simp [g1, hno, hb]
        exact h1.kept hle2 hk2 (fun i => .inl ⟨i, rfl⟩) (fun i => .inr ⟨id, i, rfl⟩)
      · by_cases e : (g.Ω b).out = .outer
        · simp [g1, e] at hb
          have := h.own b hb
          have := hle.size; omega
        · simp only [g1, e, if_false] at hb
          by_cases e2 : g'.Ω b = .var 0
          · exact hrel.own b (by rw [e2]; simp)
          · simp [e2] at hb; exact hrel.own b hb
    refine ⟨s', g1, hK, ⟨hle1, fun b hb => ?_, hle.size, hle.os, hle.out⟩, ?_⟩
    · obtain ⟨q1, q2, q3⟩ := hloc b (by rw [hb]; rfl); exact ⟨q1.trans hb, q2, q3⟩
    · refine hR.putO hs' hd (hvr.mono hle2) fun e sz xs hx => ?_
      obtain ⟨j, z, us, m1, m2, m3, m4, m5, m6, m7, m8, m9⟩ := hor e sz xs hx
      refine ⟨j, z, us, m1, m2, m3, m4, m5, m6, m7, m8, fun b hb => ⟨?_, (m9 b hb).2⟩⟩
      have q := (m9 b hb).1
      have hno : (g.Ω b).out ≠ .outer := fun e => by have := (hle.outer b (hout b e)).1; rw [this] at q; cases q
      simp [g1, hno, q]
  · exact hK.elim
theorem callT_wp {d : Option Nat} {f : Nat} {xs : List AV} {vs : List Value} {K : St → Prop} {Q : Exit → Act → World → Prop} (h : Rel P gl N g s a w) (hd : chkDstO N o d = true)
    (hr : (execOp a.eval o).run P w = .ok (.enter f vs.toArray) w) (hv : VRs g xs vs) (hn : ∀ x ∈ xs, NotOwn x)
    (hC : CallT P gl f xs s.heap fun r H' => match ({ s with heap := H' } : St).putO d r with | some s' => K s' | none => False) : o.wp P a w (Post P gl N g w K) Q :=
  callT_wp' h hd hr (fun b => (g.Ω b).out) (fun _ _ => rfl) (fun b hb => h.own b (out_none hb)) (VRs.mono (g := g) (g' := ⟨g.γ, fun b => (g.Ω b).out, g.ρ⟩) ⟨fun _ _ _ h => h, fun _ _ h => h⟩ hv) (fun _ x _ hx _ => (hn x (List.mem_of_getElem? hx)).ownR) hC
theorem notOwn_all {us : List AV} : ∀ x ∈ us.map AV.noOwn, NotOwn x := notOwn_map

theorem callI_wp {d : Option Nat} {f : Nat} {xs : List Opd} {K : St → Prop} {Q : Exit → Act → World → Prop} (h : Rel P gl N g s a w)
    (hc : chkOp P N o (.callI d f xs) = true) (hX : opX P gl D s K (.callI d f xs)) : o.wp P a w (Post P gl N g w K) Q := by
  simp only [opX] at hX
  split at hX
  · rename_i us he
    simp only [chkOp, Bool.and_eq_true] at hc
    obtain ⟨⟨hdst, hcal⟩, hop⟩ := hc
    split at hop
    · rename_i c ho
      split at hop
      · rename_i f' hcl
        simp only [Bool.and_eq_true, beq_iff_eq] at hop
        obtain ⟨rfl, hxs⟩ := hop
        have hargs := (evOs_sound h hxs he).noOwn
        have hrun : (execOp a.eval o).run P w = .ok (.enter f' (c.args.toList.map a.eval).toArray) w := by
          have e : (List.map a.eval c.args.toList).toArray = c.args.map a.eval := by apply Array.ext'; simp
          simp only [execOp, ho, resolve, hcl, Act.eval, Deferred.ofValue, Sem.run_bind, Sem.run_pure, Result.andThen_ok, invoke]
          rw [run_callFunc hcal]
          simp only [Result.ok.injEq, Next.enter.injEq, true_and, and_true]
          rw [← e]; simp
        exact callT_wp h hdst hrun hargs notOwn_all hX.1
      · cases hop
    · cases hop
  · exact hX.elim

theorem callR_wp {d : Option Nat} {f : Nat} {xs : List Opd} {K : St → Prop} {Q : Exit → Act → World → Prop} (h : Rel P gl N g s a w)
    (hc : chkOp P N o (.callR d f xs) = true) (hX : opX P gl D s K (.callR d f xs)) : o.wp P a w (Post P gl N g w K) Q := by
  refine callI_wp (D := D) (d := d) (f := f) (xs := xs) h hc ?_
  simp only [opX] at hX ⊢
  split at hX
  · exact hX.mono fun r H hh => hh.2
  · exact hX
theorem callG_wp {d : Option Nat} {f u : Nat} {xs : List Opd} {K : St → Prop} {Q : Exit → Act → World → Prop} (h : Rel P gl N g s a w)
    (hc : chkOp P N o (.callG d f u xs) = true) (hX : opX P gl D s K (.callG d f u xs)) : o.wp P a w (Post P gl N g w K) Q := by
  simp only [chkOp, Bool.and_eq_true] at hc
  obtain ⟨⟨hdst, hcal⟩, hop⟩ := hc
  split at hop
  · rename_i c ho
    split at hop
    · rename_i f' hcl
      simp only [Bool.and_eq_true, beq_iff_eq] at hop
      obtain ⟨rfl, hxs⟩ := hop
      have hrun : (execOp a.eval o).run P w = .ok (.enter f' (c.args.toList.map a.eval).toArray) w := by
        have e : (List.map a.eval c.args.toList).toArray = c.args.map a.eval := by apply Array.ext'; simp
        simp only [execOp, ho, resolve, hcl, Act.eval, Deferred.ofValue, Sem.run_bind, Sem.run_pure, Result.andThen_ok, invoke]
        rw [run_callFunc hcal]
        simp only [Result.ok.injEq, Next.enter.injEq, true_and, and_true]
        rw [← e]; simp
      generalize c.args.toList = ys at hxs hrun
      cases ys with
      | nil => simp [chkOpds] at hxs
      | cons y ys =>
        simp only [chkOpds, List.length_cons, List.zip_cons_cons, List.all_cons, Bool.and_eq_true, beq_iff_eq] at hxs
        obtain ⟨hl, hy, hrest⟩ := hxs
        have hy' : y = .tmp u := by
          unfold chkOpd at hy; split at hy <;> simp_all
        subst hy'
        have hxs' : chkOpds ys xs = true := by simp only [chkOpds, Bool.and_eq_true, beq_iff_eq]; exact ⟨by omega, hrest⟩
        simp only [opX] at hX
        split at hX
        · rename_i e sz zs us hu he
          obtain ⟨v, p1, p2, p3⟩ := h.env _ _ hu
          have hev : a.eval (.tmp u) = v := by simp [Act.eval, p1]
          have hargs := (evOs_sound h hxs' he).noOwn
          obtain ⟨h3, h4⟩ := h.strip hu
          rw [List.map_cons, hev] at hrun
          -- the block that is handed over is nobody's for a while
          let gN : Gh := ⟨g.γ, fun b => if v.ownBlock = some b then .none else g.Ω b, g.ρ⟩
          have hvb : ∀ b, v.ownBlock = some b → g.Ω b = .var u ∧ b < w.heap.size := fun b hb => by
            obtain ⟨i, z, vs, m1, m2, m3, m4, m5, m6, m6', m7, m8⟩ := p3 e sz zs rfl
            exact ⟨(m8 b hb).1, (m7.lt b hb).2⟩
          have hleN : GLe g w gN w := ⟨⟨fun _ _ _ h => h, fun _ _ h => h⟩, fun b hb => ⟨by
            have : v.ownBlock ≠ some b := fun e => by rw [(hvb b e).1] at hb; cases hb
            simp [gN, this, hb], rfl, fun _ => rfl⟩, Nat.le_refl _, rfl, rfl⟩
          have hN : Rel P gl N gN { s with env := s.env.ins u (.v (.list none sz zs)) } a w := by
            refine h4.step (.var u) (strip_free _ _ _ _) hleN.toGhLe (fun b hb => ⟨?_, rfl, fun _ => rfl⟩) h4.gam (fun b hb => ?_) h4.rho
            · have : v.ownBlock ≠ some b := fun e => hb.2 (hvb b e).1
              simp [gN, this]
            · by_cases e : v.ownBlock = some b
              · exact (hvb b e).2
              · simp [gN, e] at hb; exact h.own b hb
          let Ω : Nat → Owner := fun b => if v.ownBlock = some b then .var 0 else (g.Ω b).out
          have hpost : o.wp P a w (Post P gl N gN w K) Q := by
            refine callT_wp' hN hdst hrun Ω (fun b hb => ?_) (fun b hb => ?_) ?_ ?_ hX.1
            · by_cases e : v.ownBlock = some b
              · simp [gN, e] at hb
              · simp [Ω, gN, e]
            · by_cases e : v.ownBlock = some b
              · exact (hvb b e).2
              · simp only [Ω, e, if_false] at hb; exact h.own b (out_none hb)
            · exact .cons _ _ _ _ (VR.mono (g := g) (g' := ⟨gN.γ, Ω, gN.ρ⟩) ⟨fun _ _ _ h => h, fun _ _ h => h⟩ p2) (VRs.mono (g := g) (g' := ⟨gN.γ, Ω, gN.ρ⟩) ⟨fun _ _ _ h => h, fun _ _ h => h⟩ hargs)
            · intro i x v' hx hv'
              cases i with
              | zero =>
                simp at hx hv'; subst hx hv'
                intro e' sz' zs' hz
                obtain ⟨i, z, vs, m1, m2, m3, m4, m5, m6, m6', m7, m8⟩ := p3 e' sz' zs' hz
                exact ⟨i, z, vs, m1, m2, m3, m4, m5, m6, m6', m7, fun b hb => ⟨by simp [Ω, hb], (m8 b hb).2⟩⟩
              | succ i =>
                simp only [List.getElem?_cons_succ] at hx
                exact (notOwn_map x (List.mem_of_getElem? hx)).ownR
          exact Oper.wp_mono (fun a' w' ⟨s', g', q1, q2, q3⟩ => ⟨s', g', q1, hleN.trans q2, q3⟩) hpost
        · rename_i x us hno hu he
          obtain ⟨v, p1, p2, p3⟩ := h.env _ _ hu
          have hev : a.eval (.tmp u) = v := by simp [Act.eval, p1]
          have hargs := (evOs_sound h hxs' he).noOwn
          rw [List.map_cons, hev] at hrun
          exact callT_wp h hdst hrun (.cons _ _ _ _ p2.noOwn hargs) (fun y hy => by
            rcases List.mem_cons.1 hy with rfl | hy
            · exact NotOwn.noOwn _
            · exact notOwn_map y hy) hX.1
        · exact hX.elim
    · cases hop
  · cases hop

theorem VR.fn_inv {f : Nat} {cs : List AV} {v : Value} (h : VR g (.fn f cs) v) : ∃ ws, v = .func (.func f) #[] ws.toArray ∧ VRs g cs ws := by
  cases h with
  | pure _ _ h => cases h
  | fn _ _ ws h => exact ⟨ws, rfl, h⟩

theorem VRs.append' {xs ys : List AV} {us vs : List Value} (h : VRs g xs us) (h' : VRs g ys vs) : VRs g (xs ++ ys) (us ++ vs) := h.append h'
theorem callV_wp {d : Option Nat} {x : Opd} {xs : List Opd} {K : St → Prop} {Q : Exit → Act → World → Prop} (h : Rel P gl N g s a w)
    (hc : chkOp P N o (.callV d x xs) = true) (hX : opX P gl D s K (.callV d x xs)) : o.wp P a w (Post P gl N g w K) Q := by
  simp only [opX] at hX
  split at hX
  · rename_i f caps us hx he
    simp only [chkOp, Bool.and_eq_true] at hc
    obtain ⟨hdst, hop⟩ := hc
    split at hop
    · rename_i c ho
      split at hop
      · rename_i y hcl
        simp only [Bool.and_eq_true] at hop
        obtain ⟨hy, hxs⟩ := hop
        have hargs := (evOs_sound h hxs he).noOwn
        obtain ⟨ws, hv, hws⟩ := (evO_sound h hy hx).fn_inv
        have hrun : (execOp a.eval o).run P w = .ok (.enter f (c.args.toList.map a.eval ++ ws).toArray) w := by
          have e : (List.map a.eval c.args.toList).toArray = c.args.map a.eval := by apply Array.ext'; simp
          simp only [execOp, ho, resolve, hcl, hv, Deferred.ofValue, Sem.run_bind, Sem.run_pure, Result.andThen_ok, invoke]
          rw [run_callFunc hX.1.1]
          simp only [Result.ok.injEq, Next.enter.injEq, true_and, and_true]
          rw [← e]; simp
        refine callT_wp h hdst hrun (hargs.append hws.noOwn) (fun x hx => ?_) hX.1
        rcases List.mem_append.1 hx with hx | hx
        · exact notOwn_all x hx
        · exact notOwn_all x hx
      · cases hop
    · cases hop
  · exact hX.elim
end
end AM
/-! The abstract machine's code is the model's: regions in a given order, branches, loops. -/
namespace AM
open Go
section
variable {P : Program} {gl : Glob} {D : Dets} {N : Nat} {g g' : Gh} {s s' : St} {a : Act} {w w' : World} {o : Oper}

theorem opX_wp {so : SOp} {K : St → Prop} {Q : Exit → Act → World → Prop} (h : Rel P gl N g s a w) (hc : chkOp P N o so = true) (hX : opX P gl D s K so) : o.wp P a w (Post P gl N g w K) Q := by
  have hgen : ∀ so', so' = so → (match ev gl s so' with | some s' => K s' | none => False) → o.wp P a w (Post P gl N g w K) Q := by
    rintro _ rfl hX
    split at hX
    · rename_i s' he
      exact (ev_sim h hc he).wp hX
    · exact hX.elim
  cases so <;> first
    | exact hgen _ rfl hX
    | skip
  case callP d f xs =>
    simp only [opX] at hX
    split at hX
    · rename_i us he
      obtain ⟨h1, h2⟩ := hX
      split at h2
      · rename_i r hr
        obtain ⟨h2, h3⟩ := h2
        split at h3
        · rename_i s' hp
          exact det_wp h hc he h1 h2 hp h3
        · exact h3.elim
      · exact h2.elim
    · exact hX.elim
  case callI d f xs => exact callI_wp h hc hX
  case callV d x xs => exact callV_wp h hc hX
  case callR d f xs => exact callR_wp h hc hX
  case callG d f u xs => exact callG_wp h hc hX
  case nxt d it =>
    simp only [opX] at hX
    simp only [chkOp, chkNxt, Bool.and_eq_true] at hc
    obtain ⟨hd, hop⟩ := hc
    split at hop
    · rename_i it' ho
      have hd' := hd
      simp only [dstIs, Bool.and_eq_true, beq_iff_eq, decide_eq_true_eq] at hd'
      split at hX
      · rename_i id m since seen es hcd
        obtain ⟨x, hx, hcd⟩ := bind_some hcd
        rcases nxt_run h ho hop hx hcd with ⟨rfl, hr⟩ | ⟨e, he, w', v, hr, hle, hv, hrel, _⟩
        · simp only at hX
          split at hX
          · rename_i s' hs'
            unfold Oper.wp
            rw [hr]
            refine ⟨s', g, hX, .refl _ _, ?_⟩
            rw [hd'.1]
            exact h.put hs' hd'.2 (.tup _ [.bool false] (.cons _ _ _ _ (.pure _ _ (.bool _)) .nil)) (.of_ne fun _ _ _ h => by simp at h)
          · exact hX.elim
        · cases es with
          | nil => simp at he
          | cons e0 es =>
            simp only at hX
            have := hX e he
            split at this
            · rename_i s' hs'
              unfold Oper.wp
              rw [hr]
              refine ⟨s', g, this, hle, ?_⟩
              rw [hd'.1]
              exact hrel.put hs' hd'.2 hv (.of_ne fun _ _ _ h => by simp at h)
            · exact this.elim
      · exact hX.elim
    · cases hop

/-- What holds of an operation and of what stands for it. -/
def chk1 (P : Program) (N : Nat) (ops : Array Oper) (o : Oper) (it : It) : Bool := chkGuard ops o it && chkDst N o it.o && chkOp P N o it.o

theorem guard_sound (h : Rel P gl N g s a w) {ops : Array Oper} {it : It} {b : Bool} (hc : chkGuard ops o it = true) (hg : guardV s.env it.g = some b) :
    Region.wanted o (yielded ops a.tmps) = b := by
  unfold chkGuard at hc
  split at hc
  · rename_i h1 h2
    rw [h2] at hg
    simp [guardV] at hg
    simp [Region.wanted, h1, hg]
  · rename_i j want t want' h1 h2
    simp only [Bool.and_eq_true, beq_iff_eq] at hc
    obtain ⟨rfl, hj⟩ := hc
    rw [h2] at hg
    simp only [guardV] at hg
    split at hg
    · rename_i b' hb
      simp at hg
      obtain ⟨v, hv1, hv2, _⟩ := h.env _ _ hb
      have : v = .bool b' := by
        cases hv2 with
        | pure _ _ hp => cases hp; rfl
      subst this
      simp only [Region.wanted, h1, yielded, hj, Option.bind_some, hv1]
      rw [← hg]
      cases b' <;> cases want <;> rfl
    · rename_i hb
      simp at hg
      obtain ⟨v, hv1, hv2, _⟩ := h.env _ _ hb
      have : v = .tuple #[] := by
        cases hv2 with
        | pure _ _ hp => cases hp
        | tup _ ws hws => cases hws; rfl
      subst this
      simp only [Region.wanted, h1, yielded, hj, Option.bind_some, hv1]
      subst hg; cases want <;> rfl
    · cases hg
  · cases hc

theorem runR_wp {ops : Array Oper} {its : List It} {K : St → Prop} {Q : Exit → Act → World → Prop} {g0 : Gh} {w0 : World}
    (hQ : ∀ s' g' a' w', K s' → GLe g0 w0 g' w' → Rel P gl N g' s' a' w' → Q .normal a' w') :
    ∀ (l : List Nat), (∀ i ∈ l, ∃ o it, ops[i]? = some o ∧ its[i]? = some it ∧ chk1 P N ops o it = true) →
      ∀ s g a w, Rel P gl N g s a w → GLe g0 w0 g w → runR P gl D (l.filterMap (its[·]?)) s K → wpOps P ops Q l a w := by
  intro l
  induction l with
  | nil => intro _ s g a w h hle hr; exact hQ s g a w hr hle h
  | cons i rest ih =>
    intro hl s g a w h hle hr
    obtain ⟨o, it, ho, hit, hc⟩ := hl i (by simp)
    simp only [chk1, Bool.and_eq_true] at hc
    obtain ⟨⟨hc1, hc2⟩, hc3⟩ := hc
    have ih' := ih fun i hi => hl i (by simp [hi])
    simp only [List.filterMap_cons, hit, runR] at hr
    simp only [wpOps, ho]
    split at hr
    · rename_i hgd
      rw [guard_sound h hc1 hgd]
      simp only [if_true]
      refine .inl (Oper.wp_mono ?_ (opX_wp h hc3 hr))
      rintro a1 w1 ⟨s1, g1, hk, hle1, h1⟩
      exact ih' s1 g1 a1 w1 h1 (hle.trans hle1) hk
    · rename_i hgd
      rw [guard_sound h hc1 hgd]
      simp only [Bool.false_eq_true, if_false]
      split at hr
      · rename_i d hd
        simp only [chkDst, hd, Bool.and_eq_true, beq_iff_eq, decide_eq_true_eq] at hc2
        rw [hc2.1]
        split at hr
        · rename_i s1 hs1
          exact ih' s1 g _ w (h.put hs1 hc2.2 (.tup _ _ .nil) (.of_ne fun _ _ _ h => by simp at h)) hle hr
        · exact hr.elim
      · rename_i hd
        simp only [chkDst, hd, beq_iff_eq] at hc2
        rw [hc2]
        exact ih' s g a w h hle hr
    · exact hr.elim

/-- The world's count of draws is nothing to the relation. -/
theorem Rel.drawn (h : Rel P gl N g s a w) : Rel P gl N g s a { w with drawn := w.drawn + 1 } :=
  h.later (K := fun _ => True) (g' := g) (w' := { w with drawn := w.drawn + 1 }) ⟨fun _ _ _ h => h, fun _ _ h => h⟩ (fun _ _ => ⟨rfl, rfl, fun _ => rfl⟩) (fun _ _ => trivial) (fun b off v hv => h.gam b off v hv) (fun b hb => h.own b hb) h.rho
theorem GLe.drawn {g0 : Gh} {w0 : World} (h : GLe g0 w0 g w) : GLe g0 w0 g { w with drawn := w.drawn + 1 } :=
  ⟨⟨h.γ, h.ρ⟩, h.outer, h.size, h.os, h.out⟩

theorem chkIts_spec {ops : Array Oper} : ∀ {os : List Oper} {its : List It}, chkIts P N ops os its = true → os.length = its.length ∧ ∀ (i : Nat) o it, os[i]? = some o → its[i]? = some it → chk1 P N ops o it = true
  | [], [], _ => ⟨rfl, by simp⟩
  | [], _ :: _, h => by simp [chkIts] at h
  | _ :: _, [], h => by simp [chkIts] at h
  | o :: os, it :: its, h => by
    simp only [chkIts, Bool.and_eq_true] at h
    obtain ⟨h1, h2⟩ := chkIts_spec h.2
    refine ⟨by simp [h1], fun i o' it' ho hi => ?_⟩
    cases i with
    | zero => simp at ho hi; subst ho hi; simp only [chk1, Bool.and_eq_true]; exact h.1
    | succ i => exact h2 i o' it' (by simpa using ho) (by simpa using hi)

theorem filterMap_range' (L : List It) : ∀ (its pre : List It), L = pre ++ its → (List.range' pre.length its.length).filterMap (L[·]?) = its
  | [], pre, _ => rfl
  | it :: its, pre, h => by
    have h1 : L[pre.length]? = some it := by simp [h]
    have h2 := filterMap_range' L its (pre ++ [it]) (by simp [h])
    simp only [List.length_append, List.length_cons, List.length_nil, Nat.zero_add] at h2
    simp only [List.length_cons, List.range'_succ, List.filterMap_cons, h1, h2]
theorem filterMap_range (its : List It) : (List.range its.length).filterMap (its[·]?) = its := by
  have := filterMap_range' its its [] rfl
  rw [List.range_eq_range']
  exact this
end
end AM
/-! The abstract machine's operations are monotone. -/
namespace AM
open Go
section
variable {P : Program} {gl : Glob} {D : Dets} {s : St}
theorem opX_mono {so : SOp} {K K' : St → Prop} (h : opX P gl D s K so) (hk : ∀ s, K s → K' s) : opX P gl D s K' so := by
  have hgen : ∀ so', so' = so → (match ev gl s so' with | some s' => K s' | none => False) → (match ev gl s so' with | some s' => K' s' | none => False) := by
    rintro _ rfl h
    split at h
    · exact hk _ h
    · exact h.elim
  cases so <;> first
    | exact hgen _ rfl h
    | skip
  case callP d f xs =>
    simp only [opX] at h ⊢
    split at h
    · refine ⟨h.1, ?_⟩
      have h := h.2
      split at h
      · refine ⟨h.1, ?_⟩
        have h := h.2
        split at h
        · exact hk _ h
        · exact h.elim
      · exact h.elim
    · exact h.elim
  case callI d f xs =>
    simp only [opX] at h ⊢
    split at h
    · refine h.mono fun r H hh => ?_
      split at hh
      · exact hk _ hh
      · exact hh.elim
    · exact h.elim
  case callV d x xs =>
    simp only [opX] at h ⊢
    split at h
    · refine h.mono fun r H hh => ?_
      split at hh
      · exact hk _ hh
      · exact hh.elim
    · exact h.elim
  case callR d f xs =>
    simp only [opX] at h ⊢
    split at h
    · refine h.mono fun r H hh => ⟨hh.1, ?_⟩
      have hh := hh.2
      split at hh
      · exact hk _ hh
      · exact hh.elim
    · exact h.elim
  case callG d f u xs =>
    simp only [opX] at h ⊢
    split at h
    · refine h.mono fun r H hh => ?_
      split at hh
      · exact hk _ hh
      · exact hh.elim
    · refine h.mono fun r H hh => ?_
      split at hh
      · exact hk _ hh
      · exact hh.elim
    · exact h.elim
  case nxt d it =>
    simp only [opX] at h ⊢
    split at h
    · split at h
      · split at h
        · exact hk _ h
        · exact h.elim
      · intro e he
        have := h e he
        split at this
        · exact hk _ this
        · exact this.elim
    · exact h.elim
theorem runR_mono {K K' : St → Prop} (hk : ∀ s, K s → K' s) : ∀ {its : List It} {s : St}, runR P gl D its s K → runR P gl D its s K'
  | [], _, h => hk _ h
  | it :: its, s, h => by
    simp only [runR] at h ⊢
    split at h
    · exact opX_mono h fun s h => runR_mono hk h
    · split at h
      · split at h
        · exact runR_mono hk h
        · exact h.elim
      · exact runR_mono hk h
    · exact h.elim
end
end AM
/-! What an operation over temporaries does not look at. -/
namespace AM
open Go

def opT : Opd → List Nat
  | .t n => [n]
  | _ => []
def opsT : List Opd → List Nat
  | [] => []
  | x :: r => opT x ++ opsT r
def oT : Option Opd → List Nat
  | none => []
  | some x => opT x
def partsT : List (Nat × Nat × Opd) → List Nat
  | [] => []
  | (_, _, x) :: r => opT x ++ partsT r
/-- The temporaries that an operation reads. -/
def rdT : SOp → List Nat
  | .mv _ x => opT x
  | .eqa _ _ _ x y => opT x ++ opT y
  | .not_ _ x => opT x
  | .neg _ x => opT x
  | .conv _ _ x => opT x
  | .len _ _ x => opT x
  | .box _ x => opT x
  | .boxH _ x => opT x
  | .boxI _ x => opT x
  | .fa _ x _ => opT x
  | .ld _ x _ _ => opT x
  | .ldt _ x _ _ => opT x
  | .nilchk _ x => opT x
  | .mkself _ x _ _ => opT x
  | .rng _ x => opT x
  | .nxt _ x => opT x
  | .entr _ x => opT x
  | .mks _ _ _ x => opT x
  | .isnil _ _ x => opT x
  | .clo _ x _ => opT x
  | .sdata _ x => opT x
  | .noesc _ _ x => opT x
  | .cvt _ x _ _ => opT x
  | .allocT _ _ _ => []
  | .tk _ x => [x]
  | .nil_ _ _ _ => []
  | .alloc _ _ => []
  | .allocH _ _ => []
  | .mkmap _ => []
  | .bad _ => []
  | .pick _ c x y => opT c ++ (opT x ++ opT y)
  | .bin _ _ _ x y => opT x ++ opT y
  | .ia _ _ x y => opT x ++ opT y
  | .iaa _ x _ _ y => opT x ++ opT y
  | .st _ x y => opT x ++ opT y
  | .idx _ x y => opT x ++ opT y
  | .mm _ _ x y => opT x ++ opT y
  | .look _ _ x y _ _ => opT x ++ opT y
  | .lookT _ _ x y _ => opT x ++ opT y
  | .mdel _ _ x y => opT x ++ opT y
  | .ustr _ _ x y => opT x ++ opT y
  | .cmps _ _ x y => opT x ++ opT y
  | .ext _ x _ => [x]
  | .build _ _ ps => partsT ps
  | .lit _ _ xs => opsT xs
  | .litO _ _ _ xs => opsT xs
  | .litH _ _ _ xs => opsT xs
  | .mkfn _ _ xs => opsT xs
  | .callP _ _ xs => opsT xs
  | .callI _ _ xs => opsT xs
  | .callR _ _ xs => opsT xs
  | .stt x v => v :: opT x
  | .slc _ _ x lo hi => opT x ++ (oT lo ++ oT hi)
  | .sla _ x _ _ lo hi => opT x ++ (oT lo ++ oT hi)
  | .app _ u x _ _ => u :: opT x
  | .appc _ u x _ _ => u :: opT x
  | .appd _ u x _ _ => u :: opT x
  | .apph _ _ _ _ u x => opT u ++ opT x
  | .upd _ m k v => opT m ++ (opT k ++ opT v)
  | .updT _ m k v => v :: (opT m ++ opT k)
  | .callG _ _ u xs => u :: opsT xs
  | .callV _ x xs => opT x ++ opsT xs
  | .on _ o => rdT o
/-- The temporaries that lose what they own. -/
def stT : SOp → List Nat
  | .tk _ x => [x]
  | .stt _ v => [v]
  | .app _ u _ _ _ => [u]
  | .updT _ _ _ v => [v]
  | .callG _ _ u _ => [u]
  | .on _ o => stT o
  | _ => []
/-- The temporaries that an operation writes. -/
def wrT (o : SOp) : List Nat := (match dstOf o with | some d => [d] | none => []) ++ stT o

namespace Env
theorem ins_comm (e : Env) {t u : Nat} (x y : Ent) (h : t ≠ u) : (e.ins t x).ins u y = (e.ins u y).ins t x := by
  induction e with
  | nil =>
    simp only [ins]
    by_cases h1 : u < t
    · simp [h1, show ¬ t < u by omega, show ¬ t = u by omega]
    · simp [h1, show t < u by omega, show ¬ u = t by omega]
  | cons p r ih =>
    obtain ⟨k, z⟩ := p
    simp only [ins]
    rcases Nat.lt_trichotomy t k with h1 | h1 | h1
    · rcases Nat.lt_trichotomy u k with h2 | h2 | h2
      · simp only [h1, h2, if_true, ins]
        by_cases h3 : u < t
        · simp [h3, show ¬ t < u by omega, show ¬ t = u by omega]
        · simp [h3, show t < u by omega, show ¬ u = t by omega]
      · subst h2
        simp only [h1, if_true, Nat.lt_irrefl, if_false, ins]
        simp [show ¬ u < t by omega, show ¬ u = t by omega]
      · simp only [h1, if_true, show ¬ u < k by omega, show ¬ u = k by omega, if_false, ins]
        simp [show ¬ u < t by omega, show ¬ u = t by omega]
    · subst h1
      rcases Nat.lt_trichotomy u t with h2 | h2 | h2
      · simp only [h2, if_true, Nat.lt_irrefl, if_false, ins]
        simp [show ¬ t < u by omega, show ¬ t = u by omega]
      · exact absurd h2.symm h
      · simp only [show ¬ u < t by omega, show ¬ u = t by omega, Nat.lt_irrefl, if_true, if_false, ins]
    · rcases Nat.lt_trichotomy u k with h2 | h2 | h2
      · simp only [h2, if_true, show ¬ t < k by omega, show ¬ t = k by omega, if_false, ins]
        simp [show ¬ t < u by omega, show ¬ t = u by omega]
      · subst h2
        simp only [show ¬ t < u by omega, show ¬ t = u by omega, Nat.lt_irrefl, if_true, if_false, ins]
      · simp only [show ¬ t < k by omega, show ¬ t = k by omega, show ¬ u < k by omega, show ¬ u = k by omega, if_false, ins, ih]
end Env

section
variable {gl : Glob} {env : Env} {d : Nat} {x : Ent}
theorem get_ins_ne {t : Nat} (h : t ≠ d) : (env.ins d x).get t = env.get t := by rw [Env.get_ins, if_neg h]
theorem evO_ins {y : Opd} (h : d ∉ opT y) : evO gl (env.ins d x) y = evO gl env y := by
  cases y <;> simp only [evO]
  rename_i n
  rw [get_ins_ne (by rintro rfl; simp [opT] at h)]
theorem evOs_ins : ∀ {ys : List Opd}, d ∉ opsT ys → evOs gl (env.ins d x) ys = evOs gl env ys
  | [], _ => rfl
  | y :: ys, h => by
    simp only [opsT, List.mem_append, not_or] at h
    simp only [evOs, evO_ins h.1, evOs_ins h.2]
theorem bnd_ins {n : Nat} {y : Option Opd} (h : d ∉ oT y) : bnd gl (env.ins d x) n y = bnd gl env n y := by
  cases y with
  | none => rfl
  | some y => simp only [bnd, evO_ins (y := y) h]
theorem fillParts_ins : ∀ {ps : List (Nat × Nat × Opd)} {z : List AV}, d ∉ partsT ps → fillParts gl (env.ins d x) z ps = fillParts gl env z ps
  | [], _, _ => rfl
  | (a, b, y) :: ps, z, h => by
    simp only [partsT, List.mem_append, not_or] at h
    simp only [fillParts, evO_ins h.1, fillParts_ins h.2]
theorem adr_ins {y : Opd} (h : d ∉ opT y) : adr gl (env.ins d x) y = adr gl env y := by
  cases y <;> simp only [adr]
  rename_i n
  rw [get_ins_ne (by rintro rfl; simp [opT] at h)]
theorem adrKind_ins {y : Opd} (h : d ∉ opT y) : adrKind (env.ins d x) y = adrKind env y := by
  cases y <;> simp only [adrKind]
  rename_i n
  rw [get_ins_ne (by rintro rfl; simp [opT] at h)]
theorem okPut_ins {t : Nat} (h : t ≠ d) : okPut (env.ins d x) t = okPut env t := by simp only [okPut, get_ins_ne h]
/-- The frame's view of a result. -/
def fr (d : Nat) (x : Ent) (H : List AObj) (s : St) : St := ⟨s.env.ins d x, H⟩
theorem put_fr {H H' : List AObj} {t : Nat} {y : AV} (h : t ≠ d) : (⟨env.ins d x, H'⟩ : St).put t y = ((⟨env, H⟩ : St).put t y).map (fr d x H') := by
  simp only [St.put, okPut_ins h]
  split
  · simp only [Option.map_some, fr]; rw [Env.ins_comm _ _ _ (Ne.symm h)]
  · rfl
theorem putO_fr {H H' : List AObj} {t : Option Nat} {y : AV} (h : ∀ u, t = some u → u ≠ d) : (⟨env.ins d x, H'⟩ : St).putO t y = ((⟨env, H⟩ : St).putO t y).map (fr d x H') := by
  cases t with
  | none => rfl
  | some t => exact put_fr (h t rfl)
theorem ins_fr {H H' : List AObj} {t : Nat} {y : Ent} (h : t ≠ d) : (some ⟨(env.ins d x).ins t y, H'⟩ : Option St) = (some (⟨env.ins t y, H⟩ : St)).map (fr d x H') := by
  simp only [Option.map_some, fr]; rw [Env.ins_comm _ _ _ (Ne.symm h)]
theorem bind_fr {α : Type} {o : Option α} {f : α → Option St} {f' : α → Option St} {H' : List AObj} (h : ∀ a, f' a = (f a).map (fr d x H')) : o.bind f' = (o.bind f).map (fr d x H') := by
  cases o with
  | none => rfl
  | some a => exact h a
end
end AM
/-! Operations over temporaries: they look at few of them. -/
namespace AM
open Go

/-- Classes: 0 over temporaries, 1 the same with addresses, 2 new boxes, 3 writes boxes, 4 over the heap, 5 reads the heap, 6 a call that leaves the heap, 7 reads boxes, 9 others. -/
def kls : SOp → Nat
  | .mv _ _ | .tk _ _ | .nil_ _ _ _ | .pick _ _ _ _ | .bin _ _ _ _ _ | .eqa _ _ _ _ _ | .not_ _ _ | .neg _ _ | .conv _ _ _ | .ext _ _ _ | .boxI _ _ | .build _ _ _ | .lit _ _ _ | .litO _ _ _ _
  | .ia _ _ _ _ | .idx _ _ _ | .slc _ _ _ _ _ | .sla _ _ _ _ _ _ | .app _ _ _ _ _ | .appc _ _ _ _ _ | .mkfn _ _ _ | .mkself _ _ _ _ | .mm _ _ _ _ | .isnil _ _ _ | .clo _ _ _ | .sdata _ _
  | .noesc _ _ _ | .cmps _ _ _ _ | .callP _ _ _ => 0
  | .fa _ _ _ | .iaa _ _ _ _ _ | .nilchk _ _ => 1
  | .len _ m _ => if m = 2 then 5 else 0
  | .alloc _ _ | .box _ _ => 2
  | .look _ _ _ _ _ _ | .entr _ _ => 5
  | .callR _ _ _ => 6
  | .on m (.ld _ _ _ _) => if m = 3 then 0 else if m = 4 then 5 else if m = 1 ∨ m = 2 then 7 else 9
  | .on m (.fa _ _ _) | .on m (.nilchk _ _) => if m = 3 ∨ m = 4 then 0 else 9
  | .on m (.ldt _ _ _ _) | .on m (.st _ _ _) | .on m (.stt _ _) => if m = 4 then 4 else if m = 1 ∨ m = 2 then 3 else 9
  | .lookT _ _ _ _ _ | .upd _ _ _ _ | .updT _ _ _ _ | .mdel _ _ _ _ | .mkmap _ | .rng _ _ | .nxt _ _ | .litH _ _ _ _ | .mks _ _ _ _ | .allocT _ _ _ | .cvt _ _ _ _ | .allocH _ _ | .boxH _ _ | .apph _ _ _ _ _ _ | .appd _ _ _ _ _ | .ustr _ _ _ _
  | .callI _ _ _ | .callG _ _ _ _ | .callV _ _ _ => 4
  | _ => 9
def Ent.isB : Ent → Bool
  | .b _ => true
  | _ => false
def Ent.isA : Ent → Bool
  | .a _ _ => true
  | _ => false
section
variable {gl : Glob} {env : Env} {d : Nat} {x : Ent} {H H' : List AObj}
theorem nmem {t : Nat} {l : List Nat} (h : d ∉ l) (ht : t ∈ l) : t ≠ d := fun e => h (e ▸ ht)
theorem dst_ne {o : SOp} (hw : d ∉ wrT o) {t : Nat} (ht : dstOf o = some t) : t ≠ d := fun e => hw (by simp [wrT, ht, e])
theorem st_ne {o : SOp} (hw : d ∉ wrT o) {t : Nat} (ht : t ∈ stT o) : t ≠ d := fun e => hw (by simp [wrT, ← e, ht])

theorem put_fr' {s : St} {t : Nat} {y : AV} (h : t ≠ d) : (fr d x H' s).put t y = (s.put t y).map (fr d x H') := put_fr (H := s.heap) h
theorem put2_fr {t u : Nat} {y z : AV} (h1 : t ≠ d) (h2 : u ≠ d) : ((⟨env.ins d x, H'⟩ : St).put t y).bind (fun s => s.put u z) = (((⟨env, H⟩ : St).put t y).bind fun s => s.put u z).map (fr d x H') := by
  rw [put_fr (H := H) h1]
  cases (⟨env, H⟩ : St).put t y with
  | none => rfl
  | some s => exact put_fr' h2
/-- An operation over temporaries, in a frame. -/
theorem ev_fr {o : SOp} (hk : kls o = 0 ∨ kls o = 1) (hon : ∀ m o', o ≠ .on m o') (hr : d ∉ rdT o) (hw : d ∉ wrT o) : ev gl ⟨env.ins d x, H'⟩ o = (ev gl ⟨env, H⟩ o).map (fr d x H') := by
  cases o <;> simp only [kls, reduceCtorEq, or_self, Nat.reduceEqDiff] at hk
  case on m o' => exact absurd rfl (hon m o')
  case callP => rfl
  case tk d2 y =>
    have h1 : y ≠ d := nmem hr (by simp [rdT])
    have h2 : d2 ≠ d := dst_ne hw rfl
    simp only [ev, get_ins_ne h1]
    split
    · split
      · rfl
      · exact put2_fr h1 h2
    · exact put_fr h2
    · rfl
  case ext d2 y i =>
    have h1 : y ≠ d := nmem hr (by simp [rdT])
    simp only [ev, get_ins_ne h1]
    split
    · exact bind_fr fun v => put_fr (dst_ne hw rfl)
    · rfl
  case app d2 u y e sz =>
    have h1 : u ≠ d := nmem hr (by simp [rdT])
    have h2 : d2 ≠ d := dst_ne hw rfl
    have h3 : d ∉ opT y := fun h => hr (by simp [rdT, h])
    simp only [ev, get_ins_ne h1, evO_ins h3]
    split
    · split
      · exact put2_fr h1 h2
      · rfl
    · split
      · exact put_fr h2
      · rfl
    · rfl
  case appc d2 u y e sz =>
    have h1 : u ≠ d := nmem hr (by simp [rdT])
    have h2 : d2 ≠ d := dst_ne hw rfl
    have h3 : d ∉ opT y := fun h => hr (by simp [rdT, h])
    simp only [ev, get_ins_ne h1, evO_ins h3]
    split
    · split
      · split
        · exact put_fr h2
        · exact put_fr h2
      · rfl
    · rfl
  case fa d2 y off =>
    have h2 : d2 ≠ d := dst_ne hw rfl
    simp only [rdT] at hr
    simp only [ev, adr_ins hr, okPut_ins h2]
    split
    · split
      · exact ins_fr h2
      · rfl
    · exact put_fr h2
    · split
      · exact put_fr h2
      · rfl
    · rfl
  case iaa d2 y n sz i =>
    have h2 : d2 ≠ d := dst_ne hw rfl
    simp only [rdT, List.mem_append, not_or] at hr
    simp only [ev, adr_ins hr.1, evO_ins hr.2, okPut_ins h2]
    split
    · split
      · exact ins_fr h2
      · rfl
    · split
      · exact put_fr h2
      · rfl
    · split
      · exact put_fr h2
      · rfl
    · rfl
  case nilchk d2 y =>
    have h2 : d2 ≠ d := dst_ne hw rfl
    simp only [rdT] at hr
    cases y with
    | t n =>
      have h1 : n ≠ d := nmem hr (by simp [opT])
      simp only [ev, get_ins_ne h1, okPut_ins h2]
      split
      · split
        · exact ins_fr h2
        · rfl
      · split
        · exact ins_fr h2
        · rfl
      · exact put_fr h2
      · exact put_fr h2
      · rfl
    | _ => rfl
  case len d2 m y =>
    have hm : m ≠ 2 := by rintro rfl; simp at hk
    have h2 : d2 ≠ d := dst_ne hw rfl
    simp only [rdT] at hr
    simp only [ev, evO_ins hr, hm, if_false]
    repeat' (first | exact put_fr h2 | rfl | split)
  all_goals
    have h2 := fun t ht => dst_ne (t := t) hw ht
    simp only [dstOf, Option.some.injEq, forall_eq'] at h2
    simp only [rdT] at hr
    simp (disch := (refine mt (fun h0 => ?_) hr; simp [h0])) only [ev, evO_ins, evOs_ins, bnd_ins, fillParts_ins, adr_ins]
    repeat' (first | exact put_fr h2 | rfl | (refine bind_fr fun _ => ?_) | split)
/-- An immutable address needs no memory. -/
theorem adr_im {y : Opd} (h : adrKind env y = 3) : adr gl env y = none ∨ ∃ cs, adr gl env y = some (.im cs) := by
  cases y with
  | t n =>
    simp only [adrKind] at h
    simp only [adr]
    split at h <;> simp_all
  | g n =>
    simp only [adr]
    split
    · exact .inr ⟨_, rfl⟩
    · exact .inl rfl
  | _ => simp [adrKind] at h
theorem adr_box {y : Opd} (h : adrKind env y = 1 ∨ adrKind env y = 2) : ∃ t off, adr gl env y = some (.bx t off) := by
  cases y with
  | t n =>
    simp only [adrKind] at h
    simp only [adr]
    split at h <;> simp_all
  | _ => simp [adrKind] at h
theorem adr_heap {y : Opd} (h : adrKind env y = 4) : ∃ id off, adr gl env y = some (.hp id off) := by
  cases y with
  | t n =>
    simp only [adrKind] at h
    simp only [adr]
    split at h <;> simp_all
  | _ => simp [adrKind] at h
theorem rdAt_ins {n t off : Nat} (hx : x.isB = false) (ho : ∀ cs, env.get d ≠ some (.b cs)) : rdAt ⟨env.ins d x, H'⟩ n (.bx t off) = rdAt ⟨env, H⟩ n (.bx t off) := by
  simp only [rdAt, Env.get_ins]
  by_cases h : t = d
  · subst h
    simp only [if_true]
    cases x with
    | b cs => simp [Ent.isB] at hx
    | _ =>
      cases he : env.get t with
      | none => rfl
      | some e => cases e with
        | b cs => exact absurd he (ho cs)
        | _ => rfl
  · simp only [h, if_false]
theorem wrAt_ins {t off : Nat} {vs : List AV} (hx : x.isB = false) (ho : ∀ cs, env.get d ≠ some (.b cs)) : wrAt ⟨env.ins d x, H'⟩ vs (.bx t off) = (wrAt ⟨env, H⟩ vs (.bx t off)).map (fr d x H') := by
  simp only [wrAt, Env.get_ins]
  by_cases h : t = d
  · subst h
    simp only [if_true]
    cases x with
    | b cs => simp [Ent.isB] at hx
    | _ =>
      cases he : env.get t with
      | none => rfl
      | some e => cases e with
        | b cs => exact absurd he (ho cs)
        | _ => rfl
  · simp only [h, if_false]
    split
    · split
      · simp only [Option.map_some, fr]; rw [Env.ins_comm _ _ _ (Ne.symm h)]
      · rfl
    · rfl
theorem wrAt_fr' {s : St} {t off : Nat} {vs : List AV} (hx : x.isB = false) (ho : ∀ cs, s.env.get d ≠ some (.b cs)) : wrAt (fr d x H' s) vs (.bx t off) = (wrAt s vs (.bx t off)).map (fr d x H') :=
  wrAt_ins (H := s.heap) hx ho
theorem on_pos {s : St} {m : Nat} {o : SOp} (h : adrKind s.env (adrOf o) = m) : ev gl s (.on m o) = ev gl s o := by simp only [ev, h, if_true]
theorem on_neg {s : St} {m : Nat} {o : SOp} (h : ¬ adrKind s.env (adrOf o) = m) : ev gl s (.on m o) = none := by simp only [ev, h, if_false]
/-- What an address of no box comes to. -/
def onV (gl : Glob) (env : Env) (m : Nat) (y : Opd) (off : Nat) (nc : Bool) : Option AV :=
  if adrKind env y = m then (match nc, y with
    | true, .g _ => none
    | _, _ => match adr gl env y with
      | some (.hp id o) => some (.ptr id (o + off))
      | some (.im cs) => if off ≤ cs.length then some (.cptr (cs.drop off)) else none
      | _ => none) else none
theorem on_fa {m d off : Nat} {y : Opd} (hm : m = 3 ∨ m = 4) : ev gl ⟨env, H⟩ (.on m (.fa d y off)) = (onV gl env m y off false).bind fun v => (⟨env, H⟩ : St).put d v := by
  by_cases hk : adrKind env y = m
  · rw [on_pos (s := ⟨env, H⟩) (by simp only [adrOf, hk])]
    simp only [ev, onV, if_pos hk]
    rcases hm with rfl | rfl
    · rcases adr_im (gl := gl) hk with h | ⟨cs, h⟩
      · rw [h]; rfl
      · rw [h]
        simp only
        split <;> rfl
    · obtain ⟨id, o, h⟩ := adr_heap (gl := gl) hk
      rw [h]; rfl
  · rw [on_neg (s := ⟨env, H⟩) (by simp only [adrOf]; exact hk)]
    simp only [onV, if_neg hk]; rfl
theorem on_nc {m d : Nat} {y : Opd} (hm : m = 3 ∨ m = 4) : ev gl ⟨env, H⟩ (.on m (.nilchk d y)) = (onV gl env m y 0 true).bind fun v => (⟨env, H⟩ : St).put d v := by
  by_cases hk : adrKind env y = m
  · rw [on_pos (s := ⟨env, H⟩) (by simp only [adrOf, hk])]
    simp only [ev, onV, if_pos hk]
    cases y with
    | t n =>
      simp only [adrKind] at hk
      simp only [adr]
      split at hk
      · subst hk; simp at hm
      · subst hk; simp at hm
      · rename_i cs h; rw [h]; simp
      · rename_i id o h; rw [h]; simp
      · subst hk; simp at hm
    | g n => rfl
    | _ => simp [adrKind] at hk; subst hk; simp at hm
  · rw [on_neg (s := ⟨env, H⟩) (by simp only [adrOf]; exact hk)]
    simp only [onV, if_neg hk]; rfl
theorem onV_ins {m off : Nat} {y : Opd} {nc : Bool} (h : d ∉ opT y) : onV gl (env.ins d x) m y off nc = onV gl env m y off nc := by
  simp only [onV, adrKind_ins h, adr_ins h]
theorem fa_fr {m d2 off : Nat} {y : Opd} (hm : m = 3 ∨ m = 4) (hr : d ∉ opT y) (h2 : d2 ≠ d) :
    ev gl ⟨env.ins d x, H'⟩ (.on m (.fa d2 y off)) = (ev gl ⟨env, H⟩ (.on m (.fa d2 y off))).map (fr d x H') := by
  rw [on_fa hm, on_fa hm, onV_ins hr]
  exact bind_fr fun v => put_fr h2
theorem nc_fr {m d2 : Nat} {y : Opd} (hm : m = 3 ∨ m = 4) (hr : d ∉ opT y) (h2 : d2 ≠ d) :
    ev gl ⟨env.ins d x, H'⟩ (.on m (.nilchk d2 y)) = (ev gl ⟨env, H⟩ (.on m (.nilchk d2 y))).map (fr d x H') := by
  rw [on_nc hm, on_nc hm, onV_ins hr]
  exact bind_fr fun v => put_fr h2
/-- A load of something immutable, or of a box. -/
theorem ld_fr {m d2 n : Nat} {y : Opd} {ag : Bool} (hm : m = 3 ∨ ((m = 1 ∨ m = 2) ∧ x.isB = false ∧ ∀ cs, env.get d ≠ some (.b cs))) (hr : d ∉ opT y) (h2 : d2 ≠ d) :
    ev gl ⟨env.ins d x, H'⟩ (.on m (.ld d2 y n ag)) = (ev gl ⟨env, H⟩ (.on m (.ld d2 y n ag))).map (fr d x H') := by
  have key : ∀ p, adr gl env y = some p → adrKind env y = m → rdAt ⟨env.ins d x, H'⟩ n p = rdAt ⟨env, H⟩ n p := by
    intro p hp hk
    rcases hm with rfl | ⟨hm, hx, ho⟩
    · rcases adr_im (gl := gl) hk with h | ⟨cs, h⟩
      · rw [h] at hp; cases hp
      · rw [h] at hp; simp at hp; subst hp; rfl
    · obtain ⟨t, off, h⟩ := adr_box (gl := gl) (by rw [hk]; exact hm)
      rw [h] at hp; simp at hp; subst hp
      exact rdAt_ins hx ho
  by_cases hk : adrKind env y = m
  · rw [on_pos (s := ⟨env.ins d x, H'⟩) (by simp only [adrOf, adrKind_ins hr, hk]), on_pos (s := ⟨env, H⟩) (by simp only [adrOf, hk])]
    simp only [ev, adr_ins hr]
    cases hp : adr gl env y with
    | none => rfl
    | some p =>
      simp only [Option.bind_some, key p hp hk]
      refine bind_fr fun cs => ?_
      split
      · exact put_fr h2
      · split
        · exact put_fr h2
        · rfl
  · rw [on_neg (s := ⟨env.ins d x, H'⟩) (by simp only [adrOf, adrKind_ins hr]; exact hk), on_neg (s := ⟨env, H⟩) (by simp only [adrOf]; exact hk)]; rfl
theorem bx_ldt {m d2 e sz : Nat} {y : Opd} (hm : m = 1 ∨ m = 2) (hx : x.isB = false) (ho : ∀ cs, env.get d ≠ some (.b cs)) (hr : d ∉ opT y) (h2 : d2 ≠ d) :
    ev gl ⟨env.ins d x, H'⟩ (.on m (.ldt d2 y e sz)) = (ev gl ⟨env, H⟩ (.on m (.ldt d2 y e sz))).map (fr d x H') := by
  by_cases hk : adrKind env y = m
  · rw [on_pos (s := ⟨env.ins d x, H'⟩) (by simp only [adrOf, adrKind_ins hr, hk]), on_pos (s := ⟨env, H⟩) (by simp only [adrOf, hk])]
    simp only [ev, adr_ins hr]
    obtain ⟨t, off, h⟩ := adr_box (env := env) (gl := gl) (y := y) (by rw [hk]; exact hm)
    simp only [h, Option.bind_some, rdAt_ins (H := H) (H' := H') hx ho]
    refine bind_fr fun cs => ?_
    split
    · rw [wrAt_ins (H := H) hx ho]
      cases wrAt ⟨env, H⟩ _ (.bx t off) with
      | none => rfl
      | some s => exact put_fr' h2
    · exact put_fr h2
    · rfl
  · rw [on_neg (s := ⟨env.ins d x, H'⟩) (by simp only [adrOf, adrKind_ins hr]; exact hk), on_neg (s := ⟨env, H⟩) (by simp only [adrOf]; exact hk)]; rfl
theorem bx_st {m n : Nat} {y v : Opd} (hm : m = 1 ∨ m = 2) (hx : x.isB = false) (ho : ∀ cs, env.get d ≠ some (.b cs)) (hr : d ∉ opT y) (hr2 : d ∉ opT v) :
    ev gl ⟨env.ins d x, H'⟩ (.on m (.st n y v)) = (ev gl ⟨env, H⟩ (.on m (.st n y v))).map (fr d x H') := by
  by_cases hk : adrKind env y = m
  · rw [on_pos (s := ⟨env.ins d x, H'⟩) (by simp only [adrOf, adrKind_ins hr, hk]), on_pos (s := ⟨env, H⟩) (by simp only [adrOf, hk])]
    simp only [ev, adr_ins hr, evO_ins hr2]
    obtain ⟨t, off, h⟩ := adr_box (env := env) (gl := gl) (y := y) (by rw [hk]; exact hm)
    simp only [h, Option.bind_some]
    refine bind_fr fun u => ?_
    split
    · exact wrAt_ins hx ho
    · rfl
  · rw [on_neg (s := ⟨env.ins d x, H'⟩) (by simp only [adrOf, adrKind_ins hr]; exact hk), on_neg (s := ⟨env, H⟩) (by simp only [adrOf]; exact hk)]; rfl
theorem bx_stt {m v : Nat} {y : Opd} (hm : m = 1 ∨ m = 2) (hx : x.isB = false) (ho : ∀ cs, env.get d ≠ some (.b cs)) (hr : d ∉ opT y) (hv : v ≠ d) :
    ev gl ⟨env.ins d x, H'⟩ (.on m (.stt y v)) = (ev gl ⟨env, H⟩ (.on m (.stt y v))).map (fr d x H') := by
  by_cases hk : adrKind env y = m
  · rw [on_pos (s := ⟨env.ins d x, H'⟩) (by simp only [adrOf, adrKind_ins hr, hk]), on_pos (s := ⟨env, H⟩) (by simp only [adrOf, hk])]
    simp only [ev, adr_ins hr, get_ins_ne hv]
    obtain ⟨t, off, h⟩ := adr_box (env := env) (gl := gl) (y := y) (by rw [hk]; exact hm)
    simp only [h, Option.bind_some]
    split
    · rename_i e sz xs hvx
      rw [put_fr (H := H) hv]
      cases hp : (⟨env, H⟩ : St).put v (.list none sz xs) with
      | none => rfl
      | some s =>
        simp only [Option.map_some, Option.bind_some]
        refine wrAt_fr' hx fun cs hc => ?_
        simp only [St.put] at hp
        split at hp
        · simp only [Option.some.injEq] at hp
          rw [← hp, Env.get_ins, if_neg (Ne.symm hv)] at hc
          exact ho cs hc
        · cases hp
    · rfl
  · rw [on_neg (s := ⟨env.ins d x, H'⟩) (by simp only [adrOf, adrKind_ins hr]; exact hk), on_neg (s := ⟨env, H⟩) (by simp only [adrOf]; exact hk)]; rfl
theorem hasA_ins {t : Nat} (hx : x.isA = false) (ho : ∀ u off, env.get d ≠ some (.a u off)) (hs : env.Sorted) : hasA (env.ins d x) t = hasA env t := by
  rw [Bool.eq_iff_iff]
  simp only [hasA, List.any_eq_true]
  constructor
  · rintro ⟨p, hp, hq⟩
    rcases Env.mem_ins hp with rfl | hp
    · cases x with
      | a u off => simp [Ent.isA] at hx
      | _ => simp at hq
    · exact ⟨p, hp, hq⟩
  · rintro ⟨p, hp, hq⟩
    obtain ⟨k, e⟩ := p
    cases e with
    | a u off =>
      have hg := Env.get_of_mem hs hp
      have hk : k ≠ d := by rintro rfl; exact ho _ _ hg
      exact ⟨(k, .a u off), Env.mem_of_get (by rw [get_ins_ne hk]; exact hg), hq⟩
    | _ => simp at hq
end
end AM
/-! Operations run alike over temporaries that look alike. -/
namespace AM
open Go
/-- What is seen of a temporary: of a box, that it is one. -/
def vw (env : Env) (t : Nat) : Option Ent := match Env.get env t with
  | some (.b _) => some (.b [])
  | e => e
def upds (env : Env) : List (Nat × Ent) → Env
  | [] => env
  | (t, x) :: us => upds (env.ins t x) us
/-- Updates of an operation of class k that writes W. -/
structure UOk (W : List Nat) (k : Nat) (env : Env) (us : List (Nat × Ent)) : Prop where
  mem : ∀ p ∈ us, p.1 ∈ W
  box : ∀ p ∈ us, p.2.isB = true → k = 2 ∧ isA env p.1 = false
  put : ∀ p ∈ us, p.2.isB = false → okPut env p.1 = true
  adr : ∀ p ∈ us, p.2.isA = true → k = 1
  one : us.length ≤ 1 ∨ ∀ p ∈ us, p.2.isA = false ∧ p.2.isB = false
def appU (env : Env) (p : List (Nat × Ent) × List AObj) : St := ⟨upds env p.1, p.2⟩
/-- Two runs with the same updates. -/
def Par (W : List Nat) (k : Nat) (env env2 : Env) (X Y : Option St) : Prop :=
  ∃ U : Option (List (Nat × Ent) × List AObj), (∀ p, U = some p → UOk W k env p.1) ∧ X = U.map (appU env) ∧ Y = U.map (appU env2)

section
variable {gl : Glob} {env env2 : Env} {H H' : List AObj} {W : List Nat} {k : Nat}
theorem vw_eq {t : Nat} (h : vw env2 t = vw env t) : Env.get env2 t = Env.get env t ∨ ∃ cs cs', Env.get env t = some (.b cs) ∧ Env.get env2 t = some (.b cs') := by
  unfold vw at h
  split at h
  · rename_i cs' h1
    split at h
    · rename_i cs h2; exact .inr ⟨cs, cs', h2, h1⟩
    · rename_i hh; exact absurd h.symm (hh [])
  · rename_i e2 hh
    split at h
    · exact absurd h (hh [])
    · exact .inl h
theorem evO_vw {y : Opd} (h : ∀ t ∈ opT y, vw env2 t = vw env t) : evO gl env2 y = evO gl env y := by
  cases y <;> simp only [evO]
  rename_i n
  rcases vw_eq (h n (by simp [opT])) with h | ⟨cs, cs', h1, h2⟩
  · rw [h]
  · rw [h1, h2]
theorem evOs_vw : ∀ {ys : List Opd}, (∀ t ∈ opsT ys, vw env2 t = vw env t) → evOs gl env2 ys = evOs gl env ys
  | [], _ => rfl
  | y :: ys, h => by
    simp only [evOs, evO_vw (y := y) fun t ht => h t (by simp [opsT, ht]), evOs_vw (ys := ys) fun t ht => h t (by simp [opsT, ht])]
theorem bnd_vw {n : Nat} {y : Option Opd} (h : ∀ t ∈ oT y, vw env2 t = vw env t) : bnd gl env2 n y = bnd gl env n y := by
  cases y with
  | none => rfl
  | some y => simp only [bnd, evO_vw (y := y) h]
theorem fillParts_vw : ∀ {ps : List (Nat × Nat × Opd)} {z : List AV}, (∀ t ∈ partsT ps, vw env2 t = vw env t) → fillParts gl env2 z ps = fillParts gl env z ps
  | [], _, _ => rfl
  | (a, b, y) :: ps, z, h => by
    have h1 := evO_vw (gl := gl) (y := y) (env := env) (env2 := env2) fun t ht => h t (by simp [partsT, ht])
    simp only [fillParts, h1]
    split
    · split
      · exact fillParts_vw fun t ht => h t (by simp [partsT, ht])
      · rfl
    · rfl
theorem adr_vw {y : Opd} (h : ∀ t ∈ opT y, vw env2 t = vw env t) : adr gl env2 y = adr gl env y := by
  cases y <;> simp only [adr]
  rename_i n
  rcases vw_eq (h n (by simp [opT])) with h | ⟨cs, cs', h1, h2⟩
  · rw [h]
  · rw [h1, h2]
theorem adrKind_vw {y : Opd} (h : ∀ t ∈ opT y, vw env2 t = vw env t) : adrKind env2 y = adrKind env y := by
  cases y <;> simp only [adrKind]
  rename_i n
  rcases vw_eq (h n (by simp [opT])) with h | ⟨cs, cs', h1, h2⟩
  · rw [h]
  · rw [h1, h2]
theorem okPut_vw {t : Nat} (h : vw env2 t = vw env t) : okPut env2 t = okPut env t := by
  unfold okPut
  rcases vw_eq h with h | ⟨cs, cs', h1, h2⟩
  · rw [h]
  · rw [h1, h2]
theorem isA_vw {t : Nat} (h : vw env2 t = vw env t) : isA env2 t = isA env t := by
  unfold isA
  rcases vw_eq h with h | ⟨cs, cs', h1, h2⟩
  · rw [h]
  · rw [h1, h2]
theorem par_none : Par W k env env2 none none := ⟨none, by simp, rfl, rfl⟩
theorem par_bind {α : Type} {o : Option α} {f f' : α → Option St} (h : ∀ a, Par W k env env2 (f a) (f' a)) : Par W k env env2 (o.bind f) (o.bind f') := by
  cases o with
  | none => exact par_none
  | some a => exact h a
theorem par_put {t : Nat} {y : AV} (h : vw env2 t = vw env t) (ht : t ∈ W) : Par W k env env2 ((⟨env, H⟩ : St).put t y) ((⟨env2, H⟩ : St).put t y) := by
  unfold St.put
  rw [okPut_vw h]
  by_cases hk : okPut env t = true
  · rw [if_pos hk, if_pos hk]
    exact ⟨some ([(t, .v y)], H), by intro p hp; cases hp; exact ⟨by simpa using ht, by simp [Ent.isB], by simpa using fun _ => hk, by simp [Ent.isA], .inl (by simp)⟩, rfl, rfl⟩
  · rw [if_neg hk, if_neg hk]; exact par_none
theorem par_heap : Par W k env env2 (some ⟨env, H⟩) (some ⟨env2, H⟩) :=
  ⟨some ([], H), by intro p hp; cases hp; exact ⟨by simp, by simp, by simp, by simp, .inl (by simp)⟩, rfl, rfl⟩
theorem par_putO {t : Option Nat} {y : AV} (h : ∀ u, t = some u → vw env2 u = vw env u ∧ u ∈ W) : Par W k env env2 ((⟨env, H⟩ : St).putO t y) ((⟨env2, H⟩ : St).putO t y) := by
  cases t with
  | none => exact par_heap
  | some t => exact par_put (h t rfl).1 (h t rfl).2
theorem par_put2 {t u : Nat} {y z : AV} (h : vw env2 t = vw env t) (ht : t ∈ W) (h2 : vw env2 u = vw env u) (hu : u ∈ W) (hne : u ≠ t) :
    Par W k env env2 (((⟨env, H⟩ : St).put t y).bind fun s => s.put u z) (((⟨env2, H⟩ : St).put t y).bind fun s => s.put u z) := by
  unfold St.put
  rw [okPut_vw h]
  by_cases hk : okPut env t = true
  · rw [if_pos hk, if_pos hk]
    simp only [Option.bind_some]
    rw [okPut_ins hne, okPut_ins hne, okPut_vw h2]
    by_cases hk2 : okPut env u = true
    · rw [if_pos hk2, if_pos hk2]
      refine ⟨some ([(t, .v y), (u, .v z)], H), ?_, rfl, rfl⟩
      intro p hp; cases hp
      refine ⟨by simp [ht, hu], ?_, ?_, ?_, .inr ?_⟩
      · intro p hp; simp at hp; rcases hp with rfl | rfl <;> simp [Ent.isB]
      · intro p hp; simp at hp; rcases hp with rfl | rfl <;> simp [hk, hk2]
      · intro p hp; simp at hp; rcases hp with rfl | rfl <;> simp [Ent.isA]
      · intro p hp; simp at hp; rcases hp with rfl | rfl <;> simp [Ent.isA, Ent.isB]
    · rw [if_neg hk2, if_neg hk2]; exact par_none
  · rw [if_neg hk, if_neg hk]; exact par_none
theorem par_adr {t u off : Nat} (h : vw env2 t = vw env t) (ht : t ∈ W) (hk1 : k = 1) :
    Par W k env env2 (if okPut env t = true then some ⟨env.ins t (.a u off), H⟩ else none) (if okPut env2 t = true then some ⟨env2.ins t (.a u off), H⟩ else none) := by
  rw [okPut_vw h]
  by_cases hk : okPut env t = true
  · rw [if_pos hk, if_pos hk]
    exact ⟨some ([(t, .a u off)], H), by intro p hp; cases hp; exact ⟨by simpa using ht, by simp [Ent.isB], by simpa using fun _ => hk, by simp [hk1], .inl (by simp)⟩, rfl, rfl⟩
  · rw [if_neg hk, if_neg hk]; exact par_none
theorem par_putB {t : Nat} {cs : List AV} (h : vw env2 t = vw env t) (ht : t ∈ W) (hA : hasA env2 t = hasA env t) (hk2 : k = 2) : Par W k env env2 ((⟨env, H⟩ : St).putB t cs) ((⟨env2, H⟩ : St).putB t cs) := by
  unfold St.putB
  rw [isA_vw h, hA]
  by_cases hk : (hasA env t || isA env t) = true
  · rw [if_pos hk, if_pos hk]; exact par_none
  · rw [if_neg hk, if_neg hk]
    simp only [Bool.or_eq_true, not_or, Bool.not_eq_true] at hk
    exact ⟨some ([(t, .b cs)], H), by intro p hp; cases hp; exact ⟨by simpa using ht, by simpa using fun _ => ⟨hk2, hk.2⟩, by simp [Ent.isB], by simp [Ent.isA], .inl (by simp)⟩, rfl, rfl⟩

/-- What holds of two environments for an operation. -/
structure Alike (o : SOp) (env env2 : Env) : Prop where
  rd : ∀ t ∈ rdT o, vw env2 t = vw env t
  wr : ∀ t ∈ wrT o, vw env2 t = vw env t
  ha : kls o = 2 → ∀ t ∈ wrT o, hasA env2 t = hasA env t
  bx : kls o = 7 → ∀ t cs, env.get t = some (.b cs) ↔ env2.get t = some (.b cs)
theorem dst_mem {o : SOp} {t : Nat} (h : dstOf o = some t) : t ∈ wrT o := by simp [wrT, h]
theorem st_mem {o : SOp} {t : Nat} (h : t ∈ stT o) : t ∈ wrT o := by simp [wrT, h]

theorem ev_par {o : SOp} (hk : kls o ≠ 3 ∧ kls o ≠ 6 ∧ kls o ≠ 9) (hon : ∀ m o', o ≠ .on m o') (h : Alike o env env2) : Par (wrT o) (kls o) env env2 (ev gl ⟨env, H⟩ o) (ev gl ⟨env2, H⟩ o) := by
  cases o
  case on m o' => exact absurd rfl (hon m o')
  case callP => exact par_none
  case callI => exact par_none
  case callV => exact par_none
  case callG => exact par_none
  case callR => exact par_none
  case nxt => exact par_none
  case bad => simp [kls] at hk
  case ld => simp [kls] at hk
  case ldt => simp [kls] at hk
  case st => simp [kls] at hk
  case stt => simp [kls] at hk
  case tk d2 y =>
    have hy := h.rd y (by simp [rdT])
    have hd := h.wr d2 (dst_mem rfl)
    simp only [ev]
    rcases vw_eq hy with e | ⟨cs, cs', e1, e2⟩
    · rw [e]
      split
      · split
        · exact par_none
        · rename_i hne
          exact par_put2 hy (st_mem (by simp [stT])) hd (dst_mem rfl) hne
      · exact par_put hd (dst_mem rfl)
      · exact par_none
    · rw [e1, e2]; exact par_none
  case ext d2 y i =>
    have hy := h.rd y (by simp [rdT])
    have hd := h.wr d2 (dst_mem rfl)
    simp only [ev]
    rcases vw_eq hy with e | ⟨cs, cs', e1, e2⟩
    · rw [e]
      split
      · exact par_bind fun v => par_put hd (dst_mem rfl)
      · exact par_none
    · rw [e1, e2]; exact par_none
  case app d2 u y e sz =>
    have hy := h.rd u (by simp [rdT])
    have hd := h.wr d2 (dst_mem rfl)
    have ho := evO_vw (gl := gl) (y := y) (env := env) (env2 := env2) fun t ht => h.rd t (by simp [rdT, ht])
    simp only [ev, ho]
    rcases vw_eq hy with e | ⟨cs, cs', e1, e2⟩
    · rw [e]
      split
      · split
        · rename_i hh
          exact par_put2 hy (st_mem (by simp [stT])) hd (dst_mem rfl) hh.2.2.2.1
        · exact par_none
      · split
        · exact par_put hd (dst_mem rfl)
        · exact par_none
      · exact par_none
    · rw [e1, e2]; exact par_none
  case appc d2 u y e sz =>
    have hy := h.rd u (by simp [rdT])
    have hd := h.wr d2 (dst_mem rfl)
    have ho := evO_vw (gl := gl) (y := y) (env := env) (env2 := env2) fun t ht => h.rd t (by simp [rdT, ht])
    simp only [ev, ho]
    rcases vw_eq hy with e | ⟨cs, cs', e1, e2⟩
    · rw [e]
      split
      · split
        · split
          · exact par_put hd (dst_mem rfl)
          · exact par_put hd (dst_mem rfl)
        · exact par_none
      · exact par_none
    · rw [e1, e2]; exact par_none
  case appd d2 u y e sz =>
    have hy := h.rd u (by simp [rdT])
    have hd := h.wr d2 (dst_mem rfl)
    have ho := evO_vw (gl := gl) (y := y) (env := env) (env2 := env2) fun t ht => h.rd t (by simp [rdT, ht])
    simp only [ev, ho]
    rcases vw_eq hy with e | ⟨cs, cs', e1, e2⟩
    · rw [e]
      split
      · split
        · split
          · exact par_put hd (dst_mem rfl)
          · exact par_put hd (dst_mem rfl)
        · exact par_none
      · exact par_none
    · rw [e1, e2]; exact par_none
  case updT ks m kk v =>
    have hy := h.rd v (by simp [rdT])
    have hv := h.wr v (st_mem (by simp [stT]))
    have h1 := evO_vw (gl := gl) (y := m) (env := env) (env2 := env2) fun t ht => h.rd t (by simp [rdT, ht])
    have h2 := evO_vw (gl := gl) (y := kk) (env := env) (env2 := env2) fun t ht => h.rd t (by simp [rdT, ht])
    simp only [ev, h1, h2]
    rcases vw_eq hy with e | ⟨cs, cs', e1, e2⟩
    · rw [e]
      split
      · split
        · split
          · exact par_put hv (st_mem (by simp [stT]))
          · exact par_none
        · exact par_none
      · exact par_none
    · rw [e1, e2]
      split
      · rename_i hh; simp at hh
      · split
        · rename_i hh; simp at hh
        · exact par_none
  case nilchk d2 y =>
    have hd := h.wr d2 (dst_mem rfl)
    cases y with
    | t n =>
      have hy := h.rd n (by simp [rdT, opT])
      simp only [ev]
      rcases vw_eq hy with e | ⟨cs, cs', e1, e2⟩
      · rw [e]
        split
        · exact par_adr hd (dst_mem rfl) rfl
        · exact par_adr hd (dst_mem rfl) rfl
        · exact par_put hd (dst_mem rfl)
        · exact par_put hd (dst_mem rfl)
        · exact par_none
      · rw [e1, e2]; exact par_adr hd (dst_mem rfl) rfl
    | _ => exact par_none
  case fa d2 y off =>
    have hd := h.wr d2 (dst_mem rfl)
    have h1 := adr_vw (gl := gl) (y := y) (env := env) (env2 := env2) fun t ht => h.rd t (by simpa [rdT] using ht)
    simp only [ev, h1]
    split
    · exact par_adr hd (dst_mem rfl) rfl
    · exact par_put hd (dst_mem rfl)
    · split
      · exact par_put hd (dst_mem rfl)
      · exact par_none
    · exact par_none
  case iaa d2 y n sz i =>
    have hd := h.wr d2 (dst_mem rfl)
    have h1 := adr_vw (gl := gl) (y := y) (env := env) (env2 := env2) fun t ht => h.rd t (by simp [rdT, ht])
    have h2 := evO_vw (gl := gl) (y := i) (env := env) (env2 := env2) fun t ht => h.rd t (by simp [rdT, ht])
    simp only [ev, h1, h2, okPut_vw hd]
    split
    · rename_i t o kd j _ _
      by_cases hh : 0 ≤ j ∧ j < n ∧ okPut env d2 = true
      · rw [if_pos hh, if_pos hh]
        have := par_adr (H := H) (u := t) (off := o + j.toNat * sz) hd (dst_mem (o := .iaa d2 y n sz i) rfl) (rfl : kls (.iaa d2 y n sz i) = 1)
        rw [if_pos hh.2.2, if_pos (by rw [okPut_vw hd]; exact hh.2.2)] at this
        exact this
      · rw [if_neg hh, if_neg hh]; exact par_none
    · split
      · exact par_put hd (dst_mem rfl)
      · exact par_none
    · split
      · exact par_put hd (dst_mem rfl)
      · exact par_none
    · exact par_none
  case alloc d2 z => exact par_putB (h.wr d2 (dst_mem rfl)) (dst_mem rfl) (h.ha rfl d2 (dst_mem rfl)) rfl
  case box d2 y =>
    have h1 := evO_vw (gl := gl) (y := y) (env := env) (env2 := env2) fun t ht => h.rd t (by simpa [rdT] using ht)
    simp only [ev, h1]
    refine par_bind fun v => ?_
    split
    · exact par_putB (h.wr d2 (dst_mem rfl)) (dst_mem rfl) (h.ha rfl d2 (dst_mem rfl)) rfl
    · exact par_none
  case mdel ks d2 m kk =>
    have h1 := evO_vw (gl := gl) (y := m) (env := env) (env2 := env2) fun t ht => h.rd t (by simp [rdT, ht])
    have h2 := evO_vw (gl := gl) (y := kk) (env := env) (env2 := env2) fun t ht => h.rd t (by simp [rdT, ht])
    simp only [ev, h1, h2]
    split
    · split
      · split
        · exact par_putO fun u hu => ⟨h.wr u (dst_mem (by simpa [dstOf] using hu)), dst_mem (by simpa [dstOf] using hu)⟩
        · exact par_none
      · exact par_none
    · exact par_none
  case upd ks m kk v =>
    have h1 := evO_vw (gl := gl) (y := m) (env := env) (env2 := env2) fun t ht => h.rd t (by simp [rdT, ht])
    have h2 := evO_vw (gl := gl) (y := kk) (env := env) (env2 := env2) fun t ht => h.rd t (by simp [rdT, ht])
    have h3 := evO_vw (gl := gl) (y := v) (env := env) (env2 := env2) fun t ht => h.rd t (by simp [rdT, ht])
    simp only [ev, h1, h2, h3]
    split
    · split
      · split
        · exact par_heap
        · exact par_none
      · exact par_none
    · exact par_none
  all_goals
    have h2 := fun t ht => h.wr t (dst_mem (t := t) ht)
    simp only [dstOf, Option.some.injEq, forall_eq'] at h2
    have hr := h.rd
    simp only [rdT] at hr
    simp (disch := (intro t ht; apply hr; simp [ht])) only [ev, evO_vw (env := env) (env2 := env2), evOs_vw (env := env) (env2 := env2), bnd_vw (env := env) (env2 := env2), fillParts_vw (env := env) (env2 := env2), adr_vw (env := env) (env2 := env2)]
    repeat' (first | exact par_put h2 (dst_mem rfl) | exact par_none | (refine par_bind fun _ => ?_) | split)
theorem rd_box {n t off : Nat} (h : ∀ t cs, env.get t = some (.b cs) ↔ env2.get t = some (.b cs)) : rdAt ⟨env2, H⟩ n (.bx t off) = rdAt ⟨env, H⟩ n (.bx t off) := by
  simp only [rdAt]
  cases h1 : Env.get env t with
  | none =>
    cases h2 : Env.get env2 t with
    | none => rfl
    | some e => cases e with
      | b cs => rw [(h t cs).2 h2] at h1; cases h1
      | _ => rfl
  | some e => cases e with
    | b cs => rw [(h t cs).1 h1]
    | _ =>
      cases h2 : Env.get env2 t with
      | none => rfl
      | some e => cases e with
        | b cs => rw [(h t cs).2 h2] at h1; cases h1
        | _ => rfl
theorem on_ld_par {m d n : Nat} {y : Opd} {ag : Bool} (hk : kls (.on m (.ld d y n ag)) ≠ 9) (h : Alike (.on m (.ld d y n ag)) env env2) :
    Par (wrT (.on m (.ld d y n ag))) (kls (.on m (.ld d y n ag))) env env2 (ev gl ⟨env, H⟩ (.on m (.ld d y n ag))) (ev gl ⟨env2, H⟩ (.on m (.ld d y n ag))) := by
  have hr : ∀ t ∈ opT y, vw env2 t = vw env t := fun t ht => h.rd t (by simpa [rdT] using ht)
  have hkd := adrKind_vw hr
  by_cases hm : adrKind env y = m
  · rw [on_pos (s := ⟨env, H⟩) (by simp only [adrOf, hm]), on_pos (s := ⟨env2, H⟩) (by simp only [adrOf, hkd, hm])]
    simp only [ev, adr_vw hr]
    have key : ∀ p, adr gl env y = some p → rdAt ⟨env2, H⟩ n p = rdAt ⟨env, H⟩ n p := by
      intro p hp
      cases p with
      | hp id off => rfl
      | im cs => rfl
      | bx t off =>
        refine rd_box (h.bx ?_)
        simp only [kls] at hk ⊢
        have hm12 : m = 1 ∨ m = 2 := by
          rw [← hm]
          cases y <;> simp only [adr, reduceCtorEq] at hp
          · rename_i u
            simp only [adrKind]
            split at hp <;> simp_all
          · split at hp <;> simp at hp
        rcases hm12 with rfl | rfl <;> simp
    cases hp : adr gl env y with
    | none => exact par_none
    | some p =>
      simp only [Option.bind_some, key p hp]
      refine par_bind fun cs => ?_
      split
      · exact par_put (h.wr d (dst_mem rfl)) (dst_mem rfl)
      · split
        · exact par_put (h.wr d (dst_mem rfl)) (dst_mem rfl)
        · exact par_none
  · rw [on_neg (s := ⟨env, H⟩) (by simp only [adrOf]; exact hm), on_neg (s := ⟨env2, H⟩) (by simp only [adrOf, hkd]; exact hm)]
    exact par_none
theorem wr_heap {id off : Nat} {vs : List AV} : ∃ U : Option (List AObj), ∀ env, wrAt ⟨env, H⟩ vs (.hp id off) = U.map fun H' => ⟨env, H'⟩ := by
  simp only [wrAt]
  cases H[id]? with
  | none => exact ⟨none, fun _ => rfl⟩
  | some o =>
    cases o with
    | cells cs =>
      by_cases h : off + vs.length ≤ cs.length
      · exact ⟨some (H.set id (.cells (setCells cs off vs))), fun _ => by simp [h]⟩
      · exact ⟨none, fun _ => by simp [h]⟩
    | buf e cs =>
      by_cases h : off + vs.length ≤ cs.length
      · exact ⟨some (H.set id (.buf e (setCells cs off vs))), fun _ => by simp [h]⟩
      · exact ⟨none, fun _ => by simp [h]⟩
    | _ => exact ⟨none, fun _ => rfl⟩
theorem on_hp_par {m : Nat} {o : SOp} (ho : (∃ d y e sz, o = .ldt d y e sz) ∨ (∃ n y v, o = .st n y v) ∨ ∃ y v, o = .stt y v) (hk : kls (.on m o) = 4) (h : Alike (.on m o) env env2) :
    Par (wrT (.on m o)) (kls (.on m o)) env env2 (ev gl ⟨env, H⟩ (.on m o)) (ev gl ⟨env2, H⟩ (.on m o)) := by
  have hm4 : m = 4 := by
    rcases ho with ⟨d, y, e, sz, rfl⟩ | ⟨n, y, v, rfl⟩ | ⟨y, v, rfl⟩ <;>
    · simp only [kls] at hk
      split at hk
      · assumption
      · split at hk <;> cases hk
  subst hm4
  have hra : ∀ t ∈ opT (adrOf o), vw env2 t = vw env t := fun t ht => h.rd t (by
    rcases ho with ⟨d, y, e, sz, rfl⟩ | ⟨n, y, v, rfl⟩ | ⟨y, v, rfl⟩ <;> simp only [adrOf] at ht <;> simp [rdT, ht])
  have hkd := adrKind_vw hra
  by_cases hm : adrKind env (adrOf o) = 4
  · rw [on_pos (s := ⟨env, H⟩) (by simp only [hm]), on_pos (s := ⟨env2, H⟩) (by simp only [hkd, hm])]
    obtain ⟨id, off, ha⟩ := adr_heap (gl := gl) hm
    have ha2 : adr gl env2 (adrOf o) = some (.hp id off) := by rw [adr_vw hra, ha]
    rcases ho with ⟨d, y, e, sz, rfl⟩ | ⟨n, y, v, rfl⟩ | ⟨y, v, rfl⟩
    · simp only [adrOf] at ha ha2
      simp only [ev, ha, ha2, Option.bind_some]
      have hrd : rdAt ⟨env2, H⟩ 1 (.hp id off) = rdAt ⟨env, H⟩ 1 (.hp id off) := rfl
      rw [hrd]
      refine par_bind fun cs => ?_
      split
      · obtain ⟨U, hU⟩ := wr_heap (H := H) (id := id) (off := off) (vs := [.list none _ _])
        rw [hU env, hU env2]
        cases U with
        | none => exact par_none
        | some H' => exact par_put (h.wr d (dst_mem rfl)) (dst_mem rfl)
      · exact par_put (h.wr d (dst_mem rfl)) (dst_mem rfl)
      · exact par_none
    · simp only [adrOf] at ha ha2
      have hv := evO_vw (gl := gl) (y := v) (env := env) (env2 := env2) fun t ht => h.rd t (by simp [rdT, ht])
      simp only [ev, ha, ha2, hv, Option.bind_some]
      refine par_bind fun u => ?_
      split
      · obtain ⟨U, hU⟩ := wr_heap (H := H) (id := id) (off := off) (vs := u.cells.map AV.noOwn)
        rw [hU env, hU env2]
        cases U with
        | none => exact par_none
        | some H' => exact par_heap
      · exact par_none
    · simp only [adrOf] at ha ha2
      have hy := h.rd v (by simp [rdT])
      simp only [ev, ha, ha2, Option.bind_some]
      rcases vw_eq hy with e | ⟨cs, cs', e1, e2⟩
      · rw [e]
        split
        · rename_i e0 sz xs _
          simp only [St.put]
          rw [okPut_vw hy]
          by_cases hok : okPut env v = true
          · rw [if_pos hok, if_pos hok]
            simp only [Option.bind_some]
            obtain ⟨U, hU⟩ := wr_heap (H := H) (id := id) (off := off) (vs := [.list (some e0) sz xs])
            rw [hU, hU]
            cases U with
            | none => exact par_none
            | some H' =>
              have := par_put (H := H') (k := kls (.on 4 (.stt y v))) (y := .list none sz xs) hy (st_mem (o := .on 4 (.stt y v)) (by simp [stT]))
              simp only [St.put] at this
              rw [okPut_vw hy, if_pos hok, if_pos hok] at this
              exact this
          · rw [if_neg hok, if_neg hok]; exact par_none
        · exact par_none
      · rw [e1, e2]; exact par_none
  · rw [on_neg (s := ⟨env, H⟩) hm, on_neg (s := ⟨env2, H⟩) (by simp only [hkd]; exact hm)]
    exact par_none
theorem onV_vw {m off : Nat} {y : Opd} {nc : Bool} (h : ∀ t ∈ opT y, vw env2 t = vw env t) : onV gl env2 m y off nc = onV gl env m y off nc := by
  simp only [onV, adrKind_vw h, adr_vw h]
theorem on_fa_par {m d off : Nat} {y : Opd} (hm : m = 3 ∨ m = 4) (h : Alike (.on m (.fa d y off)) env env2) :
    Par (wrT (.on m (.fa d y off))) (kls (.on m (.fa d y off))) env env2 (ev gl ⟨env, H⟩ (.on m (.fa d y off))) (ev gl ⟨env2, H⟩ (.on m (.fa d y off))) := by
  rw [on_fa hm, on_fa hm, onV_vw fun t ht => h.rd t (by simpa [rdT] using ht)]
  exact par_bind fun v => par_put (h.wr d (dst_mem rfl)) (dst_mem rfl)
theorem on_nc_par {m d : Nat} {y : Opd} (hm : m = 3 ∨ m = 4) (h : Alike (.on m (.nilchk d y)) env env2) :
    Par (wrT (.on m (.nilchk d y))) (kls (.on m (.nilchk d y))) env env2 (ev gl ⟨env, H⟩ (.on m (.nilchk d y))) (ev gl ⟨env2, H⟩ (.on m (.nilchk d y))) := by
  rw [on_nc hm, on_nc hm, onV_vw fun t ht => h.rd t (by simpa [rdT] using ht)]
  exact par_bind fun v => par_put (h.wr d (dst_mem rfl)) (dst_mem rfl)
theorem on34 {m : Nat} (h : ¬ (if m = 3 ∨ m = 4 then 0 else 9) = 9) : m = 3 ∨ m = 4 := by
  split at h
  · assumption
  · exact absurd rfl h
theorem ev_par' {o : SOp} (hk : kls o ≠ 3 ∧ kls o ≠ 6 ∧ kls o ≠ 9) (h : Alike o env env2) : Par (wrT o) (kls o) env env2 (ev gl ⟨env, H⟩ o) (ev gl ⟨env2, H⟩ o) := by
  by_cases hon : ∃ m o', o = .on m o'
  · obtain ⟨m, o', rfl⟩ := hon
    cases o'
    case ld d y n ag => exact on_ld_par hk.2.2 h
    case fa d y off => exact on_fa_par (on34 hk.2.2) h
    case nilchk d y => exact on_nc_par (on34 hk.2.2) h
    case ldt d y e sz =>
      refine on_hp_par (.inl ⟨_, _, _, _, rfl⟩) ?_ h
      simp only [kls] at hk ⊢
      split at hk
      · rename_i hm; rw [if_pos hm]
      · split at hk <;> simp at hk
    case st n y v =>
      refine on_hp_par (.inr (.inl ⟨_, _, _, rfl⟩)) ?_ h
      simp only [kls] at hk ⊢
      split at hk
      · rename_i hm; rw [if_pos hm]
      · split at hk <;> simp at hk
    case stt y v =>
      refine on_hp_par (.inr (.inr ⟨_, _, rfl⟩)) ?_ h
      simp only [kls] at hk ⊢
      split at hk
      · rename_i hm; rw [if_pos hm]
      · split at hk <;> simp at hk
    all_goals simp [kls] at hk
  · exact ev_par hk (fun m o' e => hon ⟨m, o', e⟩) h
end
end AM
/-! Operations that do not meet may be exchanged. -/
namespace AM
open Go
section
variable {P : Program} {gl : Glob} {D : Dets} {env env2 : Env} {H H' : List AObj}

/-- What an operation does, pure calls included. -/
def evD (gl : Glob) (D : Dets) (s : St) : SOp → Option St
  | .callP d f xs => (evOs gl s.env xs).bind fun vs => if (vs.map AV.noOwn).all AV.arg = true then (D f (vs.map AV.noOwn)).bind fun r => s.putO d r else none
  | o => ev gl s o
def sideD (P : Program) (gl : Glob) (D : Dets) (env : Env) : SOp → Prop
  | .callP _ f xs => ∀ vs r, evOs gl env xs = some vs → D f (vs.map AV.noOwn) = some r → Det P gl f (vs.map AV.noOwn) r
  | _ => True
def isH0 (k : Nat) : Bool := k == 0 || k == 1 || k == 2 || k == 3 || k == 7
def isX0 (k : Nat) : Bool := k == 0 || k == 1 || k == 2 || k == 4 || k == 5 || k == 6 || k == 7
theorem opX_ev {s : St} {K : St → Prop} {o : SOp} (hk : (match o with | .callP _ _ _ | .callI _ _ _ | .callV _ _ _ | .callG _ _ _ _ | .callR _ _ _ | .nxt _ _ => false | _ => true) = true) :
    opX P gl D s K o ↔ ∃ s1, ev gl s o = some s1 ∧ K s1 := by
  have hgen : (match ev gl s o with | some s' => K s' | none => False) ↔ ∃ s1, ev gl s o = some s1 ∧ K s1 := by
    cases ev gl s o with
    | none => simp
    | some s1 => simp
  cases o <;> first | exact hgen | simp at hk
theorem opX_h0 {s : St} {K : St → Prop} {o : SOp} (hk : isH0 (kls o) = true ∨ kls o = 5) : opX P gl D s K o ↔ sideD P gl D s.env o ∧ ∃ s1, evD gl D s o = some s1 ∧ K s1 := by
  by_cases hc : ∃ d f xs, o = .callP d f xs
  · obtain ⟨d, f, xs, rfl⟩ := hc
    simp only [opX, evD, sideD]
    cases he : evOs gl s.env xs with
    | none => simp
    | some vs =>
      simp only [Option.bind_some]
      by_cases ha : (vs.map AV.noOwn).all AV.arg = true
      · simp only [ha, if_true, true_and]
        cases hD : D f (vs.map AV.noOwn) with
        | none => simp
        | some r =>
          simp only [Option.bind_some]
          cases hp : s.putO d r with
          | none => simp
          | some s1 =>
            simp only
            constructor
            · rintro ⟨h1, h2⟩
              exact ⟨fun vs' r' h3 h4 => by simp at h3; subst h3; rw [hD] at h4; simp at h4; subst h4; exact h1, s1, rfl, h2⟩
            · rintro ⟨h1, s2, h2, h3⟩
              simp at h2; subst h2
              exact ⟨h1 vs r rfl hD, h3⟩
      · simp [ha]
  · have h1 : evD gl D s o = ev gl s o := by cases o <;> first | rfl | exact absurd ⟨_, _, _, rfl⟩ hc
    have h2 : sideD P gl D s.env o ↔ True := by cases o <;> first | exact Iff.rfl | exact absurd ⟨_, _, _, rfl⟩ hc
    rw [h1, h2, true_and]
    refine opX_ev ?_
    cases o <;> first | rfl | exact absurd ⟨_, _, _, rfl⟩ hc | (simp [isH0, kls] at hk)

/-- In a frame. -/
theorem evD_fr {d : Nat} {x : Ent} {o : SOp} (hs : env.Sorted) (hk : isH0 (kls o) = true) (hr : d ∉ rdT o) (hw : d ∉ wrT o)
    (h2 : kls o = 2 → x.isA = false ∧ ∀ u off, env.get d ≠ some (.a u off)) (h3 : kls o = 3 ∨ kls o = 7 → x.isB = false ∧ ∀ cs, env.get d ≠ some (.b cs)) :
    evD gl D ⟨env.ins d x, H'⟩ o = (evD gl D ⟨env, H⟩ o).map (fr d x H') := by
  by_cases hc : ∃ dd f xs, o = .callP dd f xs
  · obtain ⟨dd, f, xs, rfl⟩ := hc
    simp only [evD]
    rw [evOs_ins (by simpa [rdT] using hr)]
    refine bind_fr fun vs => ?_
    split
    · exact bind_fr fun r => putO_fr fun u hu => dst_ne hw (by simpa [dstOf] using hu)
    · rfl
  · have h1 : ∀ s, evD gl D s o = ev gl s o := fun s => by cases o <;> first | rfl | exact absurd ⟨_, _, _, rfl⟩ hc
    rw [h1, h1]
    by_cases hon : ∃ m o', o = .on m o'
    · obtain ⟨m, o', rfl⟩ := hon
      cases o'
      case ld d2 y n ag =>
        have hd2 : d2 ≠ d := dst_ne hw rfl
        have hry : d ∉ opT y := by simpa [rdT] using hr
        refine ld_fr ?_ hry hd2
        simp only [kls] at hk h3
        split at hk
        · left; assumption
        · split at hk
          · simp [isH0] at hk
          · split at hk
            · rename_i h4 h5 h6
              right
              refine ⟨h6, h3 ?_⟩
              simp [h4, h5, h6]
            · simp [isH0] at hk
      case fa d2 y off => exact fa_fr (on34 fun e => by simp only [kls] at hk; rw [e] at hk; simp [isH0] at hk) (by simpa [rdT] using hr) (dst_ne hw rfl)
      case nilchk d2 y => exact nc_fr (on34 fun e => by simp only [kls] at hk; rw [e] at hk; simp [isH0] at hk) (by simpa [rdT] using hr) (dst_ne hw rfl)
      case ldt d2 y e sz =>
        have hm : m ≠ 4 ∧ (m = 1 ∨ m = 2) := by
          simp only [kls] at hk
          split at hk
          · simp [isH0] at hk
          · split at hk
            · exact ⟨by assumption, by assumption⟩
            · simp [isH0] at hk
        obtain ⟨q1, q2⟩ := h3 (.inl (by simp [kls, hm.1, hm.2]))
        exact bx_ldt hm.2 q1 q2 (by simpa [rdT] using hr) (dst_ne hw rfl)
      case st n y v =>
        have hm : m ≠ 4 ∧ (m = 1 ∨ m = 2) := by
          simp only [kls] at hk
          split at hk
          · simp [isH0] at hk
          · split at hk
            · exact ⟨by assumption, by assumption⟩
            · simp [isH0] at hk
        obtain ⟨q1, q2⟩ := h3 (.inl (by simp [kls, hm.1, hm.2]))
        simp only [rdT, List.mem_append, not_or] at hr
        exact bx_st hm.2 q1 q2 hr.1 hr.2
      case stt y v =>
        have hm : m ≠ 4 ∧ (m = 1 ∨ m = 2) := by
          simp only [kls] at hk
          split at hk
          · simp [isH0] at hk
          · split at hk
            · exact ⟨by assumption, by assumption⟩
            · simp [isH0] at hk
        obtain ⟨q1, q2⟩ := h3 (.inl (by simp [kls, hm.1, hm.2]))
        simp only [rdT, List.mem_cons, not_or] at hr
        exact bx_stt hm.2 q1 q2 hr.2 (fun e => hr.1 e.symm)
      all_goals simp [kls, isH0] at hk
    · by_cases hb : (∃ d2 z, o = .alloc d2 z) ∨ ∃ d2 y, o = .box d2 y
      · have key : ∀ (d2 : Nat) (cs : List AV), d2 ≠ d → x.isA = false → (∀ u off, env.get d ≠ some (.a u off)) → (⟨env.ins d x, H'⟩ : St).putB d2 cs = ((⟨env, H⟩ : St).putB d2 cs).map (fr d x H') := by
          intro d2 cs hne hx ho
          have hA : isA (env.ins d x) d2 = isA env d2 := by simp only [isA, get_ins_ne hne]
          simp only [St.putB, hasA_ins hx ho hs, hA]
          split
          · rfl
          · exact ins_fr hne
        rcases hb with ⟨d2, z, rfl⟩ | ⟨d2, y, rfl⟩
        · obtain ⟨q1, q2⟩ := h2 rfl
          exact key d2 z (dst_ne hw rfl) q1 q2
        · obtain ⟨q1, q2⟩ := h2 rfl
          simp only [ev]
          rw [evO_ins (by simpa [rdT] using hr)]
          refine bind_fr fun v => ?_
          split
          · exact key d2 _ (dst_ne hw rfl) q1 q2
          · rfl
      · refine ev_fr ?_ (fun m o' e => hon ⟨m, o', e⟩) hr hw
        cases o <;> first | (simp [kls]; done) | exact absurd ⟨_, _, rfl⟩ hon | exact absurd (.inl ⟨_, _, rfl⟩) hb | exact absurd (.inr ⟨_, _, rfl⟩) hb | (simp [kls, isH0] at hk; done) | skip
        all_goals (simp only [kls] at hk ⊢; split at hk <;> simp_all [isH0])
end
end AM
/-! Operations over temporaries leave the heap. -/
namespace AM
open Go
section
variable {P : Program} {gl : Glob} {D : Dets} {env env2 : Env} {H H' : List AObj}
def hpS (H : List AObj) (s : St) : St := ⟨s.env, H⟩
theorem put_hp {t : Nat} {y : AV} : (⟨env, H'⟩ : St).put t y = ((⟨env, H⟩ : St).put t y).map (hpS H') := by
  simp only [St.put]; split <;> rfl
theorem put_hp' {s : St} {t : Nat} {y : AV} : (hpS H' s).put t y = (s.put t y).map (hpS H') := put_hp (H := s.heap)
theorem putB_hp {t : Nat} {y : List AV} : (⟨env, H'⟩ : St).putB t y = ((⟨env, H⟩ : St).putB t y).map (hpS H') := by
  simp only [St.putB]; split <;> rfl
theorem putO_hp {t : Option Nat} {y : AV} : (⟨env, H'⟩ : St).putO t y = ((⟨env, H⟩ : St).putO t y).map (hpS H') := by
  cases t with
  | none => rfl
  | some t => exact put_hp
theorem put2_hp {t u : Nat} {y z : AV} : ((⟨env, H'⟩ : St).put t y).bind (fun s => s.put u z) = (((⟨env, H⟩ : St).put t y).bind fun s => s.put u z).map (hpS H') := by
  rw [put_hp (H := H)]
  cases (⟨env, H⟩ : St).put t y with
  | none => rfl
  | some s => exact put_hp'
theorem bind_hp {α : Type} {o : Option α} {f f' : α → Option St} (h : ∀ a, f' a = (f a).map (hpS H')) : o.bind f' = (o.bind f).map (hpS H') := by
  cases o with
  | none => rfl
  | some a => exact h a
theorem ite_hp {c : Prop} [Decidable c] {e : Env} : (if c then some (⟨e, H'⟩ : St) else none) = (if c then some (⟨e, H⟩ : St) else none).map (hpS H') := by split <;> rfl
theorem ev_hp {o : SOp} (hk : kls o = 0 ∨ kls o = 1 ∨ kls o = 2) (hon : ∀ m o', o ≠ .on m o') : ev gl ⟨env, H'⟩ o = (ev gl ⟨env, H⟩ o).map (hpS H') := by
  cases o <;> simp only [kls, reduceCtorEq, or_self, Nat.reduceEqDiff] at hk
  case on m o' => exact absurd rfl (hon m o')
  case callP => rfl
  case len d2 m y =>
    have hm : m ≠ 2 := by rintro rfl; simp at hk
    simp only [ev, hm, if_false]
    repeat' (first | exact put_hp | rfl | split)
  case iaa d2 y n sz i =>
    simp only [ev]
    split
    · exact ite_hp
    · split
      · exact put_hp
      · rfl
    · split
      · exact put_hp
      · rfl
    · rfl
  case nilchk d2 y =>
    cases y with
    | t n =>
      simp only [ev]
      split
      · exact ite_hp
      · exact ite_hp
      · exact put_hp
      · exact put_hp
      · rfl
    | _ => rfl
  case fa d2 y off =>
    simp only [ev]
    split
    · exact ite_hp
    · exact put_hp
    · split
      · exact put_hp
      · rfl
    · rfl
  all_goals
    simp only [ev]
    repeat' (first | exact put_hp | exact putB_hp | exact put2_hp | rfl | (refine bind_hp fun _ => ?_) | split)
theorem rd_hp {n : Nat} {p : Adr} (h : ∀ id off, p ≠ .hp id off) : rdAt ⟨env, H'⟩ n p = rdAt ⟨env, H⟩ n p := by
  cases p with
  | bx t off => rfl
  | hp id off => exact absurd rfl (h id off)
  | im cs => rfl
theorem wr_hp {t off : Nat} {vs : List AV} : wrAt ⟨env, H'⟩ vs (.bx t off) = (wrAt ⟨env, H⟩ vs (.bx t off)).map (hpS H') := by
  simp only [wrAt]
  split
  · split <;> rfl
  · rfl
theorem on_hp {m : Nat} {o : SOp} (hk : isH0 (kls (.on m o)) = true) : ev gl ⟨env, H'⟩ (.on m o) = (ev gl ⟨env, H⟩ (.on m o)).map (hpS H') := by
  have h34 : ¬ (if m = 3 ∨ m = 4 then 0 else 9) = 9 ∨ isH0 (if m = 3 ∨ m = 4 then 0 else 9) = false := by
    split
    · left; simp
    · right; rfl
  by_cases hfa : (∃ d y off, o = .fa d y off) ∨ ∃ d y, o = .nilchk d y
  · rcases hfa with ⟨d, y, off, rfl⟩ | ⟨d, y, rfl⟩
    · have hm := on34 (h34.resolve_right fun e => by simp only [kls, e] at hk; cases hk)
      rw [on_fa hm, on_fa hm]
      exact bind_hp fun v => put_hp
    · have hm := on34 (h34.resolve_right fun e => by simp only [kls, e] at hk; cases hk)
      rw [on_nc hm, on_nc hm]
      exact bind_hp fun v => put_hp
  by_cases hm : adrKind env (adrOf o) = m
  · rw [on_pos (s := ⟨env, H'⟩) hm, on_pos (s := ⟨env, H⟩) hm]
    cases o
    case fa d y off => exact absurd (.inl ⟨_, _, _, rfl⟩) hfa
    case nilchk d y => exact absurd (.inr ⟨_, _, rfl⟩) hfa
    case ld d2 y n ag =>
      simp only [ev]
      have key : ∀ p, adr gl env y = some p → ∀ id off, p ≠ .hp id off := by
        intro p hp id off e
        subst e
        simp only [kls] at hk
        have h4 : m = 4 := by
          rw [← hm]
          simp only [adrOf]
          cases y <;> simp only [adr, reduceCtorEq] at hp
          · simp only [adrKind]; split at hp <;> simp_all
          · split at hp <;> simp at hp
        subst h4
        simp [isH0] at hk
      cases hp : adr gl env y with
      | none => rfl
      | some p =>
        simp only [Option.bind_some, rd_hp (H := H) (H' := H') (key p hp)]
        refine bind_hp fun cs => ?_
        split
        · exact put_hp
        · split
          · exact put_hp
          · rfl
    case ldt d2 y e sz =>
      have h12 : m = 1 ∨ m = 2 := by
        simp only [kls] at hk
        split at hk
        · simp [isH0] at hk
        · split at hk
          · assumption
          · simp [isH0] at hk
      obtain ⟨t, off, h⟩ := adr_box (gl := gl) (env := env) (y := y) (by simp only [adrOf] at hm; rw [hm]; exact h12)
      simp only [ev, h, Option.bind_some]
      rw [rd_hp (H := H) (H' := H') (p := .bx t off) (by simp)]
      refine bind_hp fun cs => ?_
      split
      · rw [wr_hp (H := H)]
        cases wrAt ⟨env, H⟩ _ (.bx t off) with
        | none => rfl
        | some s => exact put_hp'
      · exact put_hp
      · rfl
    case st n y v =>
      have h12 : m = 1 ∨ m = 2 := by
        simp only [kls] at hk
        split at hk
        · simp [isH0] at hk
        · split at hk
          · assumption
          · simp [isH0] at hk
      obtain ⟨t, off, h⟩ := adr_box (gl := gl) (env := env) (y := y) (by simp only [adrOf] at hm; rw [hm]; exact h12)
      simp only [ev, h, Option.bind_some]
      refine bind_hp fun u => ?_
      split
      · exact wr_hp
      · rfl
    case stt y v =>
      have h12 : m = 1 ∨ m = 2 := by
        simp only [kls] at hk
        split at hk
        · simp [isH0] at hk
        · split at hk
          · assumption
          · simp [isH0] at hk
      obtain ⟨t, off, h⟩ := adr_box (gl := gl) (env := env) (y := y) (by simp only [adrOf] at hm; rw [hm]; exact h12)
      simp only [ev, h, Option.bind_some]
      split
      · rw [put_hp (H := H)]
        cases (⟨env, H⟩ : St).put v _ with
        | none => rfl
        | some s => exact wr_hp (H := s.heap)
      · rfl
    all_goals simp [kls, isH0] at hk
  · rw [on_neg (s := ⟨env, H'⟩) hm, on_neg (s := ⟨env, H⟩) hm]; rfl
theorem evD_hp {o : SOp} (hk : isH0 (kls o) = true) : evD gl D ⟨env, H'⟩ o = (evD gl D ⟨env, H⟩ o).map (hpS H') := by
  by_cases hc : ∃ dd f xs, o = .callP dd f xs
  · obtain ⟨dd, f, xs, rfl⟩ := hc
    simp only [evD]
    refine bind_hp fun vs => ?_
    split
    · exact bind_hp fun r => putO_hp
    · rfl
  · have h1 : ∀ s, evD gl D s o = ev gl s o := fun s => by cases o <;> first | rfl | exact absurd ⟨_, _, _, rfl⟩ hc
    rw [h1, h1]
    by_cases hon : ∃ m o', o = .on m o'
    · obtain ⟨m, o', rfl⟩ := hon
      exact on_hp hk
    · refine ev_hp ?_ fun m o' e => hon ⟨m, o', e⟩
      cases o <;> first | (simp [kls]; done) | exact absurd ⟨_, _, rfl⟩ hon | (simp [kls, isH0] at hk; done) | skip
      all_goals (simp only [kls] at hk ⊢; split at hk <;> simp_all [isH0])
theorem evD_heap {s s1 : St} {o : SOp} (hk : isH0 (kls o) = true) (h : evD gl D s o = some s1) : s1.heap = s.heap := by
  have := evD_hp (gl := gl) (D := D) (env := s.env) (H := s.heap) (H' := s.heap) hk
  rw [show (⟨s.env, s.heap⟩ : St) = s from rfl, h] at this
  simp only [Option.map_some, Option.some.injEq] at this
  rw [this]; rfl
end
end AM
/-! Operations that do not meet may be exchanged: the exchange. -/
namespace AM
open Go
section
variable {P : Program} {gl : Glob} {D : Dets} {env env2 : Env} {H H' : List AObj}

def optK (X : Option St) (K : St → Prop) : Prop := match X with | some s' => K s' | none => False
theorem par_K {W : List Nat} {k : Nat} {X Y : Option St} {K K2 : St → Prop} (h : Par W k env env2 X Y) (hK : ∀ us H', UOk W k env us → K ⟨upds env us, H'⟩ → K2 ⟨upds env2 us, H'⟩)
    (hx : optK X K) : optK Y K2 ∧ ∃ us H', UOk W k env us ∧ K ⟨upds env us, H'⟩ := by
  obtain ⟨U, h1, h2, h3⟩ := h
  subst h2 h3
  cases U with
  | none => exact hx.elim
  | some p =>
    obtain ⟨us, H1⟩ := p
    exact ⟨hK us H1 (h1 _ rfl) hx, us, H1, h1 _ rfl, hx⟩
theorem callE_par {W : List Nat} {k : Nat} {f : Nat} {xs : List AV} {X Y : AV → List AObj → Option St} {K K2 : St → Prop} {Z : List AObj → Prop} (h : ∀ r H', Par W k env env2 (X r H') (Y r H')) (hK : ∀ us H', UOk W k env us → K ⟨upds env us, H'⟩ → K2 ⟨upds env2 us, H'⟩)
    (hx : CallE P gl f xs H fun r H' => Z H' ∧ optK (X r H') K) : (CallE P gl f xs H fun r H' => Z H' ∧ optK (Y r H') K2) ∧ ∃ us H', UOk W k env us ∧ K ⟨upds env us, H'⟩ := by
  refine ⟨hx.mono fun r H' hh => ⟨hh.1, (par_K (h r H') hK hh.2).1⟩, ?_⟩
  obtain ⟨r, H', hh⟩ := hx.2
  exact (par_K (h r H') hK hh.2).2
theorem callE_par' {W : List Nat} {k : Nat} {f : Nat} {xs : List AV} {X Y : AV → List AObj → Option St} {K K2 : St → Prop} (h : ∀ r H', Par W k env env2 (X r H') (Y r H')) (hK : ∀ us H', UOk W k env us → K ⟨upds env us, H'⟩ → K2 ⟨upds env2 us, H'⟩)
    (hx : CallE P gl f xs H fun r H' => optK (X r H') K) : (CallE P gl f xs H fun r H' => optK (Y r H') K2) ∧ ∃ us H', UOk W k env us ∧ K ⟨upds env us, H'⟩ := by
  refine ⟨hx.mono fun r H' hh => (par_K (h r H') hK hh).1, ?_⟩
  obtain ⟨r, H', hh⟩ := hx.2
  exact (par_K (h r H') hK hh).2

theorem kls6 {o : SOp} (h : kls o = 6) : ∃ d f xs, o = .callR d f xs := by
  cases o
  case callR d f xs => exact ⟨d, f, xs, rfl⟩
  case len d m y => simp only [kls] at h; split at h <;> cases h
  case on m o' =>
    cases o' <;> simp only [kls] at h
    all_goals first | (cases h; done) | (repeat' (first | (cases h; done) | split at h))
  all_goals cases h
/-- An operation over temporaries that look alike: the same updates; and there are some. -/
theorem opX_par {o : SOp} (hk : isX0 (kls o) = true) (h : Alike o env env2) {K K2 : St → Prop} (hK : ∀ us H', UOk (wrT o) (kls o) env us → K ⟨upds env us, H'⟩ → K2 ⟨upds env2 us, H'⟩)
    (hX : opX P gl D ⟨env, H⟩ K o) : opX P gl D ⟨env2, H⟩ K2 o ∧ ∃ us H', UOk (wrT o) (kls o) env us ∧ K ⟨upds env us, H'⟩ := by
  have hdst : ∀ d, (∀ u, d = some u → dstOf o = some u) → ∀ (r : AV) (H' : List AObj), Par (wrT o) (kls o) env env2 ((⟨env, H'⟩ : St).putO d r) ((⟨env2, H'⟩ : St).putO d r) :=
    fun d hd r H' => par_putO fun u hu => ⟨h.wr u (dst_mem (hd u hu)), dst_mem (hd u hu)⟩
  cases o
  case callP d f xs =>
    have he := evOs_vw (gl := gl) (ys := xs) (env := env) (env2 := env2) fun t ht => h.rd t (by simpa [rdT] using ht)
    simp only [opX] at hX ⊢
    rw [he]
    cases hv : evOs gl env xs with
    | none => rw [hv] at hX; exact hX.elim
    | some vs =>
      rw [hv] at hX
      simp only at hX ⊢
      obtain ⟨h1, h2⟩ := hX
      cases hD : D f (vs.map AV.noOwn) with
      | none => rw [hD] at h2; exact h2.elim
      | some r =>
        rw [hD] at h2
        simp only at h2 ⊢
        obtain ⟨q1, q2⟩ := par_K (hdst d (fun u hu => by simpa [dstOf] using hu) r H) hK h2.2
        exact ⟨⟨h1, h2.1, q1⟩, q2⟩
  case callI d f xs =>
    have he := evOs_vw (gl := gl) (ys := xs) (env := env) (env2 := env2) fun t ht => h.rd t (by simpa [rdT] using ht)
    simp only [opX] at hX ⊢
    rw [he]
    cases hv : evOs gl env xs with
    | none => rw [hv] at hX; exact hX.elim
    | some vs =>
      rw [hv] at hX
      exact callE_par' (hdst d fun u hu => by simpa [dstOf] using hu) hK hX
  case callR d f xs =>
    have he := evOs_vw (gl := gl) (ys := xs) (env := env) (env2 := env2) fun t ht => h.rd t (by simpa [rdT] using ht)
    simp only [opX] at hX ⊢
    rw [he]
    cases hv : evOs gl env xs with
    | none => rw [hv] at hX; exact hX.elim
    | some vs =>
      rw [hv] at hX
      exact callE_par (Z := fun H' => ∃ n, H' = H ++ List.replicate n .dead) (hdst d fun u hu => by simpa [dstOf] using hu) hK hX
  case callV d x xs =>
    have he := evOs_vw (gl := gl) (ys := xs) (env := env) (env2 := env2) fun t ht => h.rd t (by simp [rdT, ht])
    have hx := evO_vw (gl := gl) (y := x) (env := env) (env2 := env2) fun t ht => h.rd t (by simp [rdT, ht])
    simp only [opX] at hX ⊢
    rw [he, hx]
    split at hX
    · exact callE_par' (hdst d fun u hu => by simpa [dstOf] using hu) hK hX
    · exact hX.elim
  case callG d f u xs =>
    have he := evOs_vw (gl := gl) (ys := xs) (env := env) (env2 := env2) fun t ht => h.rd t (by simp [rdT, ht])
    have hu := h.rd u (by simp [rdT])
    simp only [opX] at hX ⊢
    rw [he]
    rcases vw_eq hu with e | ⟨cs, cs', e1, e2⟩
    · rw [e]
      split at hX
      · rename_i e0 sz ys us hg hv
        refine callE_par' (fun r H' => ?_) hK hX
        have hoku : okPut env u = true := by simp [okPut, hg]
        cases d with
        | none =>
          refine ⟨some ([(u, .v (.list none sz ys))], H'), ?_, rfl, rfl⟩
          intro p hp; cases hp
          exact ⟨by simp [wrT, stT, dstOf], by simp [Ent.isB], by simpa using fun _ => hoku, by simp [Ent.isA], .inl (by simp)⟩
        | some d =>
          simp only [St.putO, St.put]
          have hokd : ∀ ev1 : Env, okPut (ev1.ins u (.v (.list none sz ys))) d = if d = u then true else okPut ev1 d := by
            intro ev1
            by_cases e : d = u
            · subst e; simp [okPut, Env.get_ins]
            · simp only [e, if_false]; exact okPut_ins e
          rw [hokd, hokd, okPut_vw (h.wr d (dst_mem rfl))]
          by_cases hok : (if d = u then true else okPut env d) = true
          · rw [if_pos hok, if_pos hok]
            refine ⟨some ([(u, .v (.list none sz ys)), (d, .v r)], H'), ?_, rfl, rfl⟩
            intro p hp; cases hp
            refine ⟨by simp [wrT, stT, dstOf], ?_, ?_, ?_, .inr ?_⟩
            · intro p hp; simp at hp; rcases hp with rfl | rfl <;> simp [Ent.isB]
            · intro p hp _; simp at hp
              rcases hp with rfl | rfl
              · exact hoku
              · by_cases e : d = u
                · subst e; exact hoku
                · simpa [e] using hok
            · intro p hp; simp at hp; rcases hp with rfl | rfl <;> simp [Ent.isA]
            · intro p hp; simp at hp; rcases hp with rfl | rfl <;> simp [Ent.isA, Ent.isB]
          · rw [if_neg hok, if_neg hok]; exact par_none
      · exact callE_par' (hdst d fun u hu => by simpa [dstOf] using hu) hK hX
      · exact hX.elim
    · rw [e1] at hX
      simp only at hX
  case nxt d it =>
    have hi := evO_vw (gl := gl) (y := it) (env := env) (env2 := env2) fun t ht => h.rd t (by simpa [rdT] using ht)
    have hp : ∀ (y : AV) (H' : List AObj), Par (wrT (.nxt d it)) (kls (.nxt d it)) env env2 ((⟨env, H'⟩ : St).put d y) ((⟨env2, H'⟩ : St).put d y) := fun y H' => par_put (h.wr d (dst_mem rfl)) (dst_mem rfl)
    simp only [opX] at hX ⊢
    rw [hi]
    split at hX
    · rename_i id m since seen es _
      cases es with
      | nil => exact par_K (hp _ _) hK hX
      | cons e0 es =>
        simp only at hX ⊢
        exact ⟨fun e he => (par_K (hp _ _) hK (hX e he)).1, (par_K (hp _ _) hK (hX e0 (by simp))).2⟩
    · exact hX.elim
  case bad d => cases hk
  all_goals
    exact par_K (ev_par' ⟨(fun e => by rw [e] at hk; cases hk), (fun e => by obtain ⟨_, _, _, h⟩ := kls6 e; cases h), (fun e => by rw [e] at hk; cases hk)⟩ h) hK hX
end
end AM
/-! Operations that do not meet may be exchanged: the theorem. -/
namespace AM
open Go
/-- No temporary of the one list is in the other one. -/
def disj (a b : List Nat) : Bool := a.all fun t => !b.contains t
theorem disj_spec {a b : List Nat} (h : disj a b = true) {t : Nat} (ha : t ∈ a) : t ∉ b := by
  unfold disj at h
  rw [List.all_eq_true] at h
  have := h t ha
  simpa using this
def badP (i j : Nat) : Bool := (i == 2 && (j == 1 || j == 3 || j == 7)) || (i == 3 && (j == 3 || j == 7))
/-- Classes of operations that may be exchanged. -/
def pairOk (i j : Nat) : Bool := ((isH0 i && isX0 j) || (isH0 j && isX0 i)) && !badP i j && !badP j i
section
variable {P : Program} {gl : Glob} {D : Dets} {env env2 : Env} {H H' : List AObj}

theorem upds_get {us : List (Nat × Ent)} : ∀ {env : Env} {t : Nat}, (∀ p ∈ us, p.1 ≠ t) → (upds env us).get t = env.get t := by
  induction us with
  | nil => intro env t _; rfl
  | cons p us ih =>
    intro env t h
    obtain ⟨u, x⟩ := p
    simp only [upds]
    rw [ih fun p hp => h p (by simp [hp]), get_ins_ne (Ne.symm (h (u, x) (by simp)))]
theorem upds_sorted {us : List (Nat × Ent)} : ∀ {env : Env}, env.Sorted → (upds env us).Sorted := by
  induction us with
  | nil => intro env h; exact h
  | cons p us ih => intro env h; exact ih (Env.Sorted.ins h p.1 p.2)
theorem vw_get {t : Nat} (h : env2.get t = env.get t) : vw env2 t = vw env t := by unfold vw; rw [h]
theorem sideD_ins {d : Nat} {x : Ent} {o : SOp} (hr : d ∉ rdT o) : sideD P gl D (env.ins d x) o ↔ sideD P gl D env o := by
  cases o <;> first | exact Iff.rfl | skip
  case callP d f xs => simp only [sideD, evOs_ins (ys := xs) (by simpa [rdT] using hr)]
/-- In a frame of updates. -/
theorem evD_upds {W : List Nat} {k : Nat} {o : SOp} (hk : isH0 (kls o) = true) (hp : pairOk (kls o) k = true) (hW : ∀ t ∈ W, t ∉ rdT o ∧ t ∉ wrT o) : ∀ (us : List (Nat × Ent)) (env : Env) (H : List AObj), env.Sorted → UOk W k env us →
    evD gl D ⟨upds env us, H'⟩ o = (evD gl D ⟨env, H⟩ o).map (fun s => ⟨upds s.env us, H'⟩) ∧ (sideD P gl D (upds env us) o ↔ sideD P gl D env o)
  | [], env, H, _, _ => by
    refine ⟨?_, Iff.rfl⟩
    exact evD_hp hk
  | (t, x) :: us, env, H, hs, hu => by
    have hm := hu.mem (t, x) (by simp)
    obtain ⟨h1, h2⟩ := hW t hm
    have hA : kls o = 2 → x.isA = false ∧ ∀ u off, env.get t ≠ some (.a u off) := by
      intro h
      rw [h] at hp
      have hk1 : k ≠ 1 := by rintro rfl; simp [pairOk, badP] at hp
      refine ⟨?_, ?_⟩
      · cases hx : x.isA with
        | false => rfl
        | true => exact absurd (hu.adr (t, x) (by simp) hx) hk1
      · intro u off hg
        cases hx : x.isB with
        | false => have := hu.put (t, x) (by simp) hx; simp [okPut, hg] at this
        | true => have := (hu.box (t, x) (by simp) hx).2; simp [isA, hg] at this
    have hB : kls o = 3 ∨ kls o = 7 → x.isB = false ∧ ∀ cs, env.get t ≠ some (.b cs) := by
      intro h
      have hk2 : k ≠ 2 := by rintro rfl; rcases h with h | h <;> (rw [h] at hp; simp [pairOk, badP] at hp)
      have hx : x.isB = false := by
        cases hx : x.isB with
        | false => rfl
        | true => exact absurd (hu.box (t, x) (by simp) hx).1 hk2
      refine ⟨hx, fun cs hg => ?_⟩
      have := hu.put (t, x) (by simp) hx; simp [okPut, hg] at this
    have hu' : UOk W k (env.ins t x) us := by
      rcases hu.one with h | h
      · have : us = [] := by simp at h; exact h
        subst this
        exact ⟨by simp, by simp, by simp, by simp, .inl (by simp)⟩
      · have hx := h (t, x) (by simp)
        have hxv : ∃ y, x = .v y := by
          cases x with
          | v y => exact ⟨y, rfl⟩
          | a u off => simp [Ent.isA] at hx
          | b cs => simp [Ent.isB] at hx
        obtain ⟨y, rfl⟩ := hxv
        refine ⟨fun p hp => hu.mem p (by simp [hp]), fun p hp hb => ?_, fun p hp hb => ?_, fun p hp => hu.adr p (by simp [hp]), .inr fun p hp => h p (by simp [hp])⟩
        · have := (h p (by simp [hp])).2; rw [this] at hb; cases hb
        · by_cases e : p.1 = t
          · rw [e]; simp [okPut, Env.get_ins]
          · rw [okPut_ins e]; exact hu.put p (by simp [hp]) hb
    obtain ⟨i1, i2⟩ := evD_upds hk hp hW us (env.ins t x) H' (Env.Sorted.ins hs t x) hu'
    simp only [upds]
    refine ⟨?_, i2.trans (sideD_ins h1)⟩
    rw [i1, evD_fr (H := H) hs hk h1 h2 hA hB, Option.map_map]
    rfl

/-- What an operation over temporaries leaves. -/
theorem evD_views {o : SOp} {s s1 : St} (hk : isH0 (kls o) = true) (h : evD gl D s o = some s1) : (∀ t, t ∉ wrT o → vw s1.env t = vw s.env t) ∧
    (kls o ≠ 3 → ∃ us, UOk (wrT o) (kls o) s.env us ∧ s1.env = upds s.env us) := by
  have halike : Alike o s.env s.env := ⟨fun _ _ => rfl, fun _ _ => rfl, fun _ _ _ => rfl, fun _ _ _ => Iff.rfl⟩
  by_cases h3 : kls o = 3
  · refine ⟨?_, fun h => absurd h3 h⟩
    -- a write of a box
    obtain ⟨m, o', rfl⟩ : ∃ m o', o = .on m o' := by
      cases o <;> first | exact ⟨_, _, rfl⟩ | (simp [kls] at h3; done) | skip
      all_goals (simp only [kls] at h3; split at h3 <;> cases h3)
    have hm : m = 1 ∨ m = 2 := by
      cases o' <;> simp only [kls] at h3
      all_goals first | (cases h3; done) | skip
      all_goals (split at h3 <;> first | (cases h3; done) | skip)
      all_goals (first | (split at h3 <;> first | (cases h3; done) | assumption | (split at h3 <;> cases h3)) | skip)
    have hev : ev gl s (.on m o') = some s1 := h
    by_cases hk1 : adrKind s.env (adrOf o') = m
    · rw [on_pos hk1] at hev
      have hwr : ∀ (s : St) (t off : Nat) (vs : List AV) (s2 : St), wrAt s vs (.bx t off) = some s2 → ∀ u, vw s2.env u = vw s.env u := by
        intro s t off vs s2 hw u
        simp only [wrAt] at hw
        split at hw
        · rename_i cs hg
          split at hw
          · simp at hw; subst hw
            unfold vw
            simp only [Env.get_ins]
            by_cases e : u = t
            · subst e; simp [hg]
            · simp [e]
          · cases hw
        · cases hw
      have hput : ∀ (s : St) (t : Nat) (y : AV) (s2 : St), s.put t y = some s2 → ∀ u, u ≠ t → vw s2.env u = vw s.env u := by
        intro s t y s2 hp u hu
        simp only [St.put] at hp
        split at hp
        · simp at hp; subst hp; exact vw_get (get_ins_ne hu)
        · cases hp
      obtain ⟨t, off, ha⟩ := adr_box (gl := gl) (env := s.env) (y := adrOf o') (by rw [hk1]; exact hm)
      intro u hu
      cases o' <;> simp only [kls] at h3 <;> simp only [adrOf] at ha
      case ldt d2 y e sz =>
        have hud : u ≠ d2 := fun e => hu (by simp [wrT, dstOf, e])
        simp only [ev, ha, Option.bind_some] at hev
        obtain ⟨cs, _, hev⟩ := bind_some hev
        split at hev
        · obtain ⟨s2, h5, h6⟩ := bind_some hev
          rw [hput _ _ _ _ h6 u hud, hwr _ _ _ _ _ h5 u]
        · exact hput _ _ _ _ hev u hud
        · cases hev
      case st n y v =>
        simp only [ev, ha, Option.bind_some] at hev
        obtain ⟨x, _, hev⟩ := bind_some hev
        split at hev
        · exact hwr _ _ _ _ _ hev u
        · cases hev
      case stt y v =>
        have huv : u ≠ v := fun e => hu (by simp [wrT, dstOf, stT, e])
        simp only [ev, ha, Option.bind_some] at hev
        split at hev
        · obtain ⟨s2, h5, h6⟩ := bind_some hev
          rw [hwr _ _ _ _ _ h6 u, hput _ _ _ _ h5 u huv]
        · cases hev
      all_goals (first | (cases h3; done) | (repeat' (first | (cases h3; done) | split at h3)))
    · rw [on_neg hk1] at hev; cases hev
  · have key : ∃ us, UOk (wrT o) (kls o) s.env us ∧ s1.env = upds s.env us := by
      by_cases hc : ∃ d f xs, o = .callP d f xs
      · obtain ⟨d, f, xs, rfl⟩ := hc
        simp only [evD] at h
        obtain ⟨vs, _, h⟩ := bind_some h
        split at h
        · obtain ⟨r, _, h⟩ := bind_some h
          have := par_putO (W := wrT (.callP d f xs)) (k := 0) (env := s.env) (env2 := s.env) (H := s.heap) (t := d) (y := r) (fun u hu => ⟨rfl, dst_mem (by simpa [dstOf] using hu)⟩)
          obtain ⟨U, h1, h2, _⟩ := this
          rw [show (⟨s.env, s.heap⟩ : St) = s from rfl, h] at h2
          cases U with
          | none => cases h2
          | some p => simp at h2; exact ⟨p.1, h1 p rfl, by rw [h2]; rfl⟩
        · cases h
      · have h1 : evD gl D s o = ev gl s o := by cases o <;> first | rfl | exact absurd ⟨_, _, _, rfl⟩ hc
        rw [h1] at h
        obtain ⟨U, h1, h2, _⟩ := ev_par' (gl := gl) (H := s.heap) ⟨h3, (fun e => by rw [e] at hk; cases hk), (fun e => by rw [e] at hk; cases hk)⟩ halike
        rw [show (⟨s.env, s.heap⟩ : St) = s from rfl, h] at h2
        cases U with
        | none => cases h2
        | some p => simp at h2; exact ⟨p.1, h1 p rfl, by rw [h2]; rfl⟩
    refine ⟨fun t ht => ?_, fun _ => key⟩
    obtain ⟨us, h1, h2⟩ := key
    rw [h2]
    exact vw_get (upds_get fun p hp e => ht (e ▸ h1.mem p hp))
theorem okPut_notB {t : Nat} (h : okPut env t = true) : ∀ cs, env.get t ≠ some (.b cs) := fun cs hg => by simp [okPut, hg] at h
theorem okPut_notA {t : Nat} (h : okPut env t = true) : ∀ u off, env.get t ≠ some (.a u off) := fun u off hg => by simp [okPut, hg] at h
theorem isA_notA {t : Nat} (h : isA env t = false) : ∀ u off, env.get t ≠ some (.a u off) := fun u off hg => by simp [isA, hg] at h
theorem hasA_upds {W : List Nat} {k : Nat} (hk : k ≠ 1) : ∀ (us : List (Nat × Ent)) (env : Env), env.Sorted → UOk W k env us → ∀ t, hasA (upds env us) t = hasA env t
  | [], _, _, _, _ => rfl
  | (u, x) :: us, env, hs, hu, t => by
    have hx : x.isA = false := by
      cases hx : x.isA with
      | false => rfl
      | true => exact absurd (hu.adr (u, x) (by simp) hx) hk
    have ho : ∀ v off, env.get u ≠ some (.a v off) := by
      cases hb : x.isB with
      | false => exact okPut_notA (hu.put (u, x) (by simp) hb)
      | true => exact isA_notA (hu.box (u, x) (by simp) hb).2
    have hu' : UOk W k (env.ins u x) us := by
      rcases hu.one with h | h
      · have : us = [] := by simp at h; exact h
        subst this
        exact ⟨by simp, by simp, by simp, by simp, .inl (by simp)⟩
      · have hx := h (u, x) (by simp)
        have hxv : ∃ y, x = .v y := by
          cases x with
          | v y => exact ⟨y, rfl⟩
          | a u off => simp [Ent.isA] at hx
          | b cs => simp [Ent.isB] at hx
        obtain ⟨y, rfl⟩ := hxv
        refine ⟨fun p hp => hu.mem p (by simp [hp]), fun p hp hb => ?_, fun p hp hb => ?_, fun p hp => hu.adr p (by simp [hp]), .inr fun p hp => h p (by simp [hp])⟩
        · have := (h p (by simp [hp])).2; rw [this] at hb; cases hb
        · by_cases e : p.1 = u
          · rw [e]; simp [okPut, Env.get_ins]
          · rw [okPut_ins e]; exact hu.put p (by simp [hp]) hb
    simp only [upds]
    rw [hasA_upds hk us (env.ins u x) (Env.Sorted.ins hs u x) hu' t, hasA_ins hx ho hs]
theorem box_upds {W : List Nat} {k : Nat} (hk : k ≠ 2) : ∀ (us : List (Nat × Ent)) (env : Env), UOk W k env us → ∀ t cs, (upds env us).get t = some (.b cs) ↔ env.get t = some (.b cs)
  | [], _, _, _, _ => Iff.rfl
  | (u, x) :: us, env, hu, t, cs => by
    have hx : x.isB = false := by
      cases hx : x.isB with
      | false => rfl
      | true => exact absurd (hu.box (u, x) (by simp) hx).1 hk
    have ho := okPut_notB (hu.put (u, x) (by simp) hx)
    have hu' : UOk W k (env.ins u x) us := by
      rcases hu.one with h | h
      · have : us = [] := by simp at h; exact h
        subst this
        exact ⟨by simp, by simp, by simp, by simp, .inl (by simp)⟩
      · have hx := h (u, x) (by simp)
        have hxv : ∃ y, x = .v y := by
          cases x with
          | v y => exact ⟨y, rfl⟩
          | a u off => simp [Ent.isA] at hx
          | b cs => simp [Ent.isB] at hx
        obtain ⟨y, rfl⟩ := hxv
        refine ⟨fun p hp => hu.mem p (by simp [hp]), fun p hp hb => ?_, fun p hp hb => ?_, fun p hp => hu.adr p (by simp [hp]), .inr fun p hp => h p (by simp [hp])⟩
        · have := (h p (by simp [hp])).2; rw [this] at hb; cases hb
        · by_cases e : p.1 = u
          · rw [e]; simp [okPut, Env.get_ins]
          · rw [okPut_ins e]; exact hu.put p (by simp [hp]) hb
    simp only [upds]
    rw [box_upds hk us (env.ins u x) hu' t cs, Env.get_ins]
    by_cases e : t = u
    · subst e
      simp only [if_true, Option.some.injEq]
      constructor
      · rintro rfl; simp [Ent.isB] at hx
      · intro h; exact absurd h (ho cs)
    · simp [e]
/-- The two operations do not meet. -/
structure Apart (a b : SOp) : Prop where
  ab : ∀ t ∈ wrT a, t ∉ rdT b ∧ t ∉ wrT b
  ba : ∀ t ∈ wrT b, t ∉ rdT a ∧ t ∉ wrT a
  ok : pairOk (kls a) (kls b) = true
theorem alike_of {a b : SOp} {s s1 : St} (hs : s.env.Sorted) (ha : isH0 (kls a) = true) (_hb : isX0 (kls b) = true) (h : Apart a b) (he : evD gl D s a = some s1) : Alike b s1.env s.env ∧ Alike b s.env s1.env := by
  obtain ⟨v1, v2⟩ := evD_views ha he
  have hv : ∀ t, t ∈ rdT b ∨ t ∈ wrT b → vw s1.env t = vw s.env t := fun t ht => v1 t fun hw => by
    obtain ⟨q1, q2⟩ := h.ab t hw
    rcases ht with ht | ht
    · exact q1 ht
    · exact q2 ht
  have hha : kls b = 2 → ∀ t, hasA s1.env t = hasA s.env t := by
    intro hb2 t
    have hok := h.ok
    rw [hb2] at hok
    have h3 : kls a ≠ 3 := fun e => by rw [e] at hok; simp [pairOk, badP] at hok
    have h1 : kls a ≠ 1 := fun e => by rw [e] at hok; simp [pairOk, badP] at hok
    obtain ⟨us, q1, q2⟩ := v2 h3
    rw [q2]; exact hasA_upds h1 us s.env hs q1 t
  have hbx : kls b = 7 → ∀ t cs, s1.env.get t = some (.b cs) ↔ s.env.get t = some (.b cs) := by
    intro hb7 t cs
    have hok := h.ok
    rw [hb7] at hok
    have h3 : kls a ≠ 3 := fun e => by rw [e] at hok; simp [pairOk, badP] at hok
    have h2 : kls a ≠ 2 := fun e => by rw [e] at hok; simp [pairOk, badP] at hok
    obtain ⟨us, q1, q2⟩ := v2 h3
    rw [q2]; exact box_upds h2 us s.env q1 t cs
  exact ⟨⟨fun t ht => (hv t (.inl ht)).symm, fun t ht => (hv t (.inr ht)).symm, fun e t _ => (hha e t).symm, fun e t cs => hbx e t cs⟩,
    ⟨fun t ht => hv t (.inl ht), fun t ht => hv t (.inr ht), fun e t _ => hha e t, fun e t cs => (hbx e t cs).symm⟩⟩
theorem uok_of {W : List Nat} {k : Nat} {us : List (Nat × Ent)} (h : UOk W k env us) (hv : ∀ t ∈ W, vw env2 t = vw env t) : UOk W k env2 us :=
  ⟨h.mem, fun p hp hb => ⟨(h.box p hp hb).1, by rw [isA_vw (hv _ (h.mem p hp))]; exact (h.box p hp hb).2⟩, fun p hp hb => by rw [okPut_vw (hv _ (h.mem p hp))]; exact h.put p hp hb, h.adr, h.one⟩

/-- The operation over temporaries comes first: it may come second. -/
theorem swapA {a b : SOp} {s : St} {K : St → Prop} (hs : s.env.Sorted) (ha : isH0 (kls a) = true) (hb : isX0 (kls b) = true) (h : Apart a b) (hX : opX P gl D s (fun s1 => opX P gl D s1 K b) a) :
    opX P gl D s (fun s1 => opX P gl D s1 K a) b := by
  obtain ⟨hside, s1, he, hX⟩ := (opX_h0 (.inl ha)).1 hX
  obtain ⟨al1, al2⟩ := alike_of hs ha hb h he
  have hh := evD_heap ha he
  have hX' : opX P gl D ⟨s1.env, s.heap⟩ K b := by rw [← hh]; exact hX
  refine (opX_par (K2 := fun s1 => opX P gl D s1 K a) hb al1 (fun us H' hu hK => ?_) hX').1
  have hu0 := uok_of hu al1.wr
  obtain ⟨q1, q2⟩ := evD_upds (P := P) (gl := gl) (D := D) (H' := H') ha h.ok h.ba us s.env s.heap hs hu0
  refine (opX_h0 (.inl ha)).2 ⟨q2.2 hside, ⟨upds s1.env us, H'⟩, ?_, hK⟩
  rw [q1, show (⟨s.env, s.heap⟩ : St) = s from rfl, he]; rfl
/-- The operation over temporaries comes second: it may come first. -/
theorem swapB {a b : SOp} {s : St} {K : St → Prop} (hs : s.env.Sorted) (ha : isH0 (kls a) = true) (hb : isX0 (kls b) = true) (h : Apart a b) (hX : opX P gl D s (fun s1 => opX P gl D s1 K a) b) :
    opX P gl D s (fun s1 => opX P gl D s1 K b) a := by
  have hself : Alike b s.env s.env := ⟨fun _ _ => rfl, fun _ _ => rfl, fun _ _ _ => rfl, fun _ _ _ => Iff.rfl⟩
  have hX0 : opX P gl D ⟨s.env, s.heap⟩ (fun s1 => opX P gl D s1 K a) b := hX
  obtain ⟨us0, H0, hu0, hK0⟩ := (opX_par (K2 := fun _ => True) hb hself (fun _ _ _ _ => trivial) hX0).2
  obtain ⟨p1, p2⟩ := evD_upds (P := P) (gl := gl) (D := D) (H' := H0) ha h.ok h.ba us0 s.env s.heap hs hu0
  obtain ⟨hside, s2, he2, _⟩ := (opX_h0 (.inl ha)).1 hK0
  rw [p1, show (⟨s.env, s.heap⟩ : St) = s from rfl, Option.map_eq_some_iff] at he2
  obtain ⟨s1, he, _⟩ := he2
  obtain ⟨al1, al2⟩ := alike_of hs ha hb h he
  have hh := evD_heap ha he
  refine (opX_h0 (.inl ha)).2 ⟨p2.1 hside, s1, he, ?_⟩
  have : opX P gl D ⟨s1.env, s.heap⟩ K b := by
    refine (opX_par (K2 := K) hb al2 (fun us H' hu hK => ?_) hX0).1
    obtain ⟨q1, q2⟩ := evD_upds (P := P) (gl := gl) (D := D) (H' := H') ha h.ok h.ba us s.env s.heap hs hu
    obtain ⟨_, s3, he3, hK3⟩ := (opX_h0 (.inl ha)).1 hK
    rw [q1, show (⟨s.env, s.heap⟩ : St) = s from rfl, he] at he3
    simp at he3
    rw [he3]; exact hK3
  rw [← hh] at this; exact this
theorem Apart.symm {a b : SOp} (h : Apart a b) : Apart b a := ⟨h.ba, h.ab, by
  have := h.ok
  unfold pairOk at this ⊢
  simp only [Bool.and_eq_true, Bool.or_eq_true] at this ⊢
  exact ⟨⟨this.1.1.symm, this.2⟩, this.1.2⟩⟩
theorem swap {a b : SOp} {s : St} {K : St → Prop} (hs : s.env.Sorted) (h : Apart a b) (hX : opX P gl D s (fun s1 => opX P gl D s1 K b) a) : opX P gl D s (fun s1 => opX P gl D s1 K a) b := by
  have hok := h.ok
  simp only [pairOk, Bool.and_eq_true, Bool.or_eq_true] at hok
  rcases hok.1.1 with ⟨h1, h2⟩ | ⟨h1, h2⟩
  · exact swapA hs h1 h2 h hX
  · exact swapB hs h1 h2 h.symm hX
end
end AM
/-! Operations that only read the heap may be exchanged; guards. -/
namespace AM
open Go
section
variable {P : Program} {gl : Glob} {D : Dets} {env env2 : Env} {H H' : List AObj}

theorem upds_comm : ∀ (us vs : List (Nat × Ent)) (env : Env), (∀ p ∈ us, ∀ q ∈ vs, p.1 ≠ q.1) → upds (upds env us) vs = upds (upds env vs) us := by
  have one : ∀ (vs : List (Nat × Ent)) (env : Env) (t : Nat) (x : Ent), (∀ q ∈ vs, t ≠ q.1) → upds (env.ins t x) vs = (upds env vs).ins t x := by
    intro vs
    induction vs with
    | nil => intro env t x _; rfl
    | cons q vs ih =>
      intro env t x h
      obtain ⟨u, y⟩ := q
      simp only [upds]
      rw [← ih (env.ins u y) t x fun q hq => h q (by simp [hq]), Env.ins_comm _ _ _ (h (u, y) (by simp))]
  intro us
  induction us with
  | nil => intro vs env _; rfl
  | cons p us ih =>
    intro vs env h
    obtain ⟨t, x⟩ := p
    simp only [upds]
    rw [ih vs (env.ins t x) fun p hp => h p (by simp [hp]), one vs env t x fun q hq => h (t, x) (by simp) q hq]
theorem dead_get {n id : Nat} : (H ++ List.replicate n .dead)[id]? = H[id]? ∨ (H[id]? = none ∧ (H ++ List.replicate n .dead)[id]? = some .dead) := by
  by_cases h : id < H.length
  · left; rw [List.getElem?_append_left h]
  · rw [List.getElem?_append_right (by omega), List.getElem?_eq_none (show H.length ≤ id by omega)]
    by_cases h2 : id - H.length < n
    · right; simp [h2]
    · left; simp [h2]
theorem rd_dead {n m : Nat} {p : Adr} : rdAt ⟨env, H ++ List.replicate n .dead⟩ m p = rdAt ⟨env, H⟩ m p := by
  cases p with
  | bx t off => rfl
  | im cs => rfl
  | hp id off =>
    simp only [rdAt]
    rcases dead_get (H := H) (n := n) (id := id) with h | ⟨h1, h2⟩
    · rw [h]
    · rw [h1, h2]
theorem kls5 {o : SOp} (h : kls o = 5) : (∃ d y, o = .len d 2 y) ∨ (∃ ks d m k z ok, o = .look ks d m k z ok) ∨ (∃ d it, o = .entr d it) ∨ ∃ d y n ag, o = .on 4 (.ld d y n ag) := by
  cases o
  case len d m y =>
    simp only [kls] at h
    split at h
    · rename_i hm; subst hm; exact .inl ⟨_, _, rfl⟩
    · cases h
  case look => exact .inr (.inl ⟨_, _, _, _, _, _, rfl⟩)
  case entr => exact .inr (.inr (.inl ⟨_, _, rfl⟩))
  case on m o' =>
    cases o' <;> simp only [kls] at h
    case ld d y n ag =>
      split at h
      · cases h
      · split at h
        · rename_i hm; subst hm; exact .inr (.inr (.inr ⟨_, _, _, _, rfl⟩))
        · split at h <;> cases h
    all_goals first | (cases h; done) | (repeat' (first | (cases h; done) | split at h))
  all_goals cases h
/-- Dead objects are not read. -/
theorem ro_dead {n : Nat} {o : SOp} (hk : kls o = 5) : ev gl ⟨env, H ++ List.replicate n .dead⟩ o = (ev gl ⟨env, H⟩ o).map (hpS (H ++ List.replicate n .dead)) := by
  rcases kls5 hk with ⟨d, y, rfl⟩ | ⟨ks, d, m, k, z, ok, rfl⟩ | ⟨d, it, rfl⟩ | ⟨d, y, k, ag, rfl⟩
  · simp only [ev]
    split
    · split
      · exact put_hp
      · rfl
    · split
      · exact put_hp
      · rfl
    · split
      · exact put_hp
      · rfl
    · split
      · exact put_hp
      · rfl
    · split
      · exact put_hp
      · rfl
    · rename_i id _
      simp only [if_true]
      rcases dead_get (H := H) (n := n) (id := id) with h | ⟨h1, h2⟩
      · rw [h]
        split
        · exact put_hp
        · rfl
      · rw [h1, h2]; rfl
    · rfl
  · simp only [ev]
    split
    · rename_i id kk _ _
      rcases dead_get (H := H) (n := n) (id := id) with h | ⟨h1, h2⟩
      · rw [h]
        repeat' (first | exact put_hp | rfl | split)
      · rw [h1, h2]; rfl
    · repeat' (first | exact put_hp | rfl | split)
    · rfl
  · simp only [ev]
    split
    · rename_i id _
      rcases dead_get (H := H) (n := n) (id := id) with h | ⟨h1, h2⟩
      · rw [h]
        split
        · rename_i mid since seen _
          rcases dead_get (H := H) (n := n) (id := mid) with h' | ⟨h3, h4⟩
          · rw [h']
            split
            · split
              · exact bind_hp fun v => put_hp
              · rfl
            · rfl
          · rw [h3, h4]; rfl
        · rfl
      · rw [h1, h2]; rfl
    · rfl
  · by_cases hm : adrKind env y = 4
    · rw [on_pos (s := ⟨env, H ++ List.replicate n AObj.dead⟩) (o := .ld d y k ag) hm, on_pos (s := ⟨env, H⟩) (o := .ld d y k ag) hm]
      simp only [ev]
      refine bind_hp fun p => ?_
      rw [rd_dead]
      refine bind_hp fun cs => ?_
      split
      · exact put_hp
      · split
        · exact put_hp
        · rfl
    · rw [on_neg (s := ⟨env, H ++ List.replicate n AObj.dead⟩) (o := .ld d y k ag) hm, on_neg (s := ⟨env, H⟩) (o := .ld d y k ag) hm]; rfl
theorem ro_heap {s s1 : St} {o : SOp} (hk : kls o = 5) (h : ev gl s o = some s1) : s1.heap = s.heap := by
  have := ro_dead (gl := gl) (env := s.env) (H := s.heap) (n := 0) hk
  simp only [List.replicate_zero, List.append_nil] at this
  rw [show (⟨s.env, s.heap⟩ : St) = s from rfl, h] at this
  simp only [Option.map_some, Option.some.injEq] at this
  rw [this]; rfl
theorem ro_ev {o : SOp} (hk : kls o = 5) (s : St) : evD gl D s o = ev gl s o := by
  rcases kls5 hk with ⟨d, y, rfl⟩ | ⟨ks, d, m, k, z, ok, rfl⟩ | ⟨d, it, rfl⟩ | ⟨d, y, k, ag, rfl⟩ <;> rfl
theorem ro_opX {o : SOp} {s : St} {K : St → Prop} (hk : kls o = 5) : opX P gl D s K o ↔ ∃ s1, ev gl s o = some s1 ∧ K s1 := by
  refine opX_ev ?_
  rcases kls5 hk with ⟨d, y, rfl⟩ | ⟨ks, d, m, k, z, ok, rfl⟩ | ⟨d, it, rfl⟩ | ⟨d, y, k, ag, rfl⟩ <;> rfl
/-- What leaves the heap. -/
theorem ro_K {o : SOp} {s : St} {K : St → Prop} (hk : kls o = 5 ∨ kls o = 6) (hX : opX P gl D s K o) : opX P gl D s (fun s' => K s' ∧ ∃ n, s'.heap = s.heap ++ List.replicate n .dead) o := by
  rcases hk with hk | hk
  · obtain ⟨s1, h1, h2⟩ := (ro_opX hk).1 hX
    exact (ro_opX hk).2 ⟨s1, h1, h2, 0, by simp [ro_heap hk h1]⟩
  · obtain ⟨d, f, xs, rfl⟩ := kls6 hk
    simp only [opX] at hX ⊢
    split at hX
    · refine hX.mono fun r H' hh => ⟨hh.1, ?_⟩
      obtain ⟨⟨n, hn⟩, hh⟩ := hh
      cases hp : ({ s with heap := H' } : St).putO d r with
      | none => rw [hp] at hh; exact hh.elim
      | some s' =>
        rw [hp] at hh
        refine ⟨hh, n, ?_⟩
        have : s'.heap = H' := by
          cases d with
          | none => simp [St.putO] at hp; rw [← hp]
          | some d => simp only [St.putO, St.put] at hp; split at hp <;> simp at hp; rw [← hp]
        rw [this, hn]
    · exact hX.elim
/-- What a reading operation does over other temporaries and with dead objects. -/
theorem ro_over {W : List Nat} {k : Nat} {a : SOp} {us : List (Nat × Ent)} {n : Nat} (ha : kls a = 5) (hW : ∀ t ∈ W, t ∉ rdT a ∧ t ∉ wrT a) (hu : UOk W k env us) : ∃ U : Option (List (Nat × Ent)), (∀ ua, U = some ua → ∀ p ∈ ua, p.1 ∈ wrT a) ∧
    ev gl ⟨env, H⟩ a = U.map (fun ua => ⟨upds env ua, H⟩) ∧ ev gl ⟨upds env us, H ++ List.replicate n .dead⟩ a = U.map fun ua => ⟨upds (upds env ua) us, H ++ List.replicate n .dead⟩ := by
  have hne : ∀ t, t ∈ rdT a ∨ t ∈ wrT a → ∀ p ∈ us, p.1 ≠ t := fun t ht p hp e => by
    obtain ⟨q1, q2⟩ := hW _ (hu.mem p hp)
    rw [e] at q1 q2
    rcases ht with ht | ht
    · exact q1 ht
    · exact q2 ht
  have al : Alike a env (upds env us) := ⟨fun t ht => vw_get (upds_get (hne t (.inl ht))), fun t ht => vw_get (upds_get (hne t (.inr ht))), (fun e => by rw [ha] at e; cases e), (fun e => by rw [ha] at e; cases e)⟩
  obtain ⟨V, h1, h2, h3⟩ := ev_par' (gl := gl) (H := H) (by rw [ha]; decide) al
  cases V with
  | none =>
    refine ⟨none, by simp, h2, ?_⟩
    rw [ro_dead ha, h3]; rfl
  | some p =>
    obtain ⟨ua, H1⟩ := p
    have hh : H1 = H := ro_heap ha h2
    subst hh
    refine ⟨some ua, fun ua' e => by cases e; exact (h1 _ rfl).mem, h2, ?_⟩
    rw [ro_dead ha, h3]
    simp only [Option.map_some, appU, hpS]
    rw [upds_comm us ua env]
    intro p hp q hq e
    exact (hW _ (hu.mem p hp)).2 (by rw [e]; exact (h1 _ rfl).mem q hq)
theorem swapR {a b : SOp} {s : St} {K : St → Prop} (ha : kls a = 5) (hb : kls b = 5 ∨ kls b = 6) (hab : ∀ t ∈ wrT a, t ∉ rdT b ∧ t ∉ wrT b) (hba : ∀ t ∈ wrT b, t ∉ rdT a ∧ t ∉ wrT a) :
    opX P gl D s (fun s1 => opX P gl D s1 K b) a ↔ opX P gl D s (fun s1 => opX P gl D s1 K a) b := by
  have hx : isX0 (kls b) = true := by rcases hb with h | h <;> rw [h] <;> rfl
  have hself : Alike b s.env s.env := ⟨fun _ _ => rfl, fun _ _ => rfl, fun _ _ _ => rfl, fun _ _ _ => Iff.rfl⟩
  have hal : ∀ ua : List (Nat × Ent), (∀ p ∈ ua, p.1 ∈ wrT a) → Alike b (upds s.env ua) s.env ∧ Alike b s.env (upds s.env ua) := by
    intro ua hua
    have hg : ∀ t, t ∈ rdT b ∨ t ∈ wrT b → (upds s.env ua).get t = s.env.get t := fun t ht => upds_get fun p hp e => by
      obtain ⟨q1, q2⟩ := hab _ (hua p hp)
      rw [e] at q1 q2
      rcases ht with ht | ht
      · exact q1 ht
      · exact q2 ht
    have h2 : kls b ≠ 2 := by rcases hb with h | h <;> rw [h] <;> decide
    have h7 : kls b ≠ 7 := by rcases hb with h | h <;> rw [h] <;> decide
    exact ⟨⟨fun t ht => (vw_get (hg t (.inl ht))).symm, fun t ht => (vw_get (hg t (.inr ht))).symm, fun e => absurd e h2, fun e => absurd e h7⟩,
      ⟨fun t ht => vw_get (hg t (.inl ht)), fun t ht => vw_get (hg t (.inr ht)), fun e => absurd e h2, fun e => absurd e h7⟩⟩
  constructor
  · intro hX
    obtain ⟨s1, he, hX⟩ := (ro_opX ha).1 hX
    obtain ⟨U, u1, u2, _⟩ := ro_over (gl := gl) (W := []) (k := 0) (env := s.env) (H := s.heap) (us := []) (n := 0) ha (by simp) ⟨by simp, by simp, by simp, by simp, .inl (by simp)⟩
    rw [show (⟨s.env, s.heap⟩ : St) = s from rfl, he] at u2
    cases U with
    | none => cases u2
    | some ua =>
      simp only [Option.map_some, Option.some.injEq] at u2
      subst u2
      have hX := ro_K hb hX
      refine (opX_par (K2 := fun s1 => opX P gl D s1 K a) hx (hal ua (u1 ua rfl)).1 (fun us H' hu hK => ?_) hX).1
      obtain ⟨hK, n, hn⟩ := hK
      simp only at hn
      subst hn
      have hu0 := uok_of hu (hal ua (u1 ua rfl)).1.wr
      obtain ⟨U', _, v2, v3⟩ := ro_over (gl := gl) (H := s.heap) (n := n) ha hba hu0
      rw [show (⟨s.env, s.heap⟩ : St) = s from rfl, he] at v2
      cases U' with
      | none => cases v2
      | some ua' =>
        simp only [Option.map_some, Option.some.injEq, St.mk.injEq, and_true] at v2
        refine (ro_opX ha).2 ⟨_, v3, ?_⟩
        show K ⟨upds (upds s.env ua') us, _⟩
        rw [← v2]; exact hK
  · intro hX
    have hX := ro_K hb hX
    have hX0 : opX P gl D ⟨s.env, s.heap⟩ (fun s' => opX P gl D s' K a ∧ ∃ n, s'.heap = s.heap ++ List.replicate n .dead) b := hX
    obtain ⟨us0, H0, hu0, hK0, n0, hn0⟩ := (opX_par (K2 := fun _ => True) hx hself (fun _ _ _ _ => trivial) hX0).2
    simp only at hn0
    subst hn0
    obtain ⟨s2, he2, _⟩ := (ro_opX ha).1 hK0
    obtain ⟨U, u1, u2, u3⟩ := ro_over (gl := gl) (H := s.heap) (n := n0) ha hba hu0
    rw [he2] at u3
    cases U with
    | none => cases u3
    | some ua =>
      refine (ro_opX ha).2 ⟨_, u2, ?_⟩
      refine (opX_par (K2 := K) hx (hal ua (u1 ua rfl)).2 (fun us H' hu hK => ?_) hX0).1
      obtain ⟨hK, n, hn⟩ := hK
      simp only at hn
      subst hn
      obtain ⟨s3, he3, hK3⟩ := (ro_opX ha).1 hK
      obtain ⟨U', _, v2, v3⟩ := ro_over (gl := gl) (H := s.heap) (n := n) ha hba hu
      rw [he3] at v3
      cases U' with
      | none => cases v3
      | some ua' =>
        rw [u2] at v2
        simp only [Option.map_some, Option.some.injEq, St.mk.injEq, and_true] at v2 v3
        subst v3
        rw [v2]; exact hK3

/-- A read of a cell and a write of a map. -/
theorem rd_mapset {id : Nat} {nn n2 : Nat} {es es2 : List (AV × AV)} (h : H[id]? = some (.map nn es)) {n : Nat} {p : Adr} : rdAt ⟨env, H.set id (.map n2 es2)⟩ n p = rdAt ⟨env, H⟩ n p := by
  cases p with
  | bx t off => rfl
  | im cs => rfl
  | hp i off =>
    simp only [rdAt]
    by_cases e : id = i
    · subst e
      rw [h, List.getElem?_set_self (List.getElem?_eq_some_iff.1 h).1]
    · rw [List.getElem?_set_ne e]
theorem lookT_rd {ks : List Nat} {d : Nat} {m k : Opd} {z : AV} {s s1 : St} (h : ev gl s (.lookT ks d m k z) = some s1) (env : Env) (n : Nat) (p : Adr) : rdAt ⟨env, s1.heap⟩ n p = rdAt ⟨env, s.heap⟩ n p := by
  have hput : ∀ {t : St} {y : AV} {s2 : St}, t.put d y = some s2 → s2.heap = t.heap := by
    intro t y s2 hp
    simp only [St.put] at hp
    split at hp
    · simp at hp; rw [← hp]
    · cases hp
  simp only [ev] at h
  repeat' (first | (cases h; done) | split at h)
  all_goals first
    | (rw [hput h]; done)
    | (rw [hput h]; exact rd_mapset (by assumption))
theorem ld_over {d n : Nat} {y : Opd} {ag : Bool} (h : ∀ n p, rdAt ⟨env, H'⟩ n p = rdAt ⟨env, H⟩ n p) : ev gl ⟨env, H'⟩ (.on 4 (.ld d y n ag)) = (ev gl ⟨env, H⟩ (.on 4 (.ld d y n ag))).map (hpS H') := by
  by_cases hm : adrKind env y = 4
  · rw [on_pos (s := ⟨env, H'⟩) (o := .ld d y n ag) hm, on_pos (s := ⟨env, H⟩) (o := .ld d y n ag) hm]
    simp only [ev]
    refine bind_hp fun p => ?_
    rw [h]
    refine bind_hp fun cs => ?_
    split
    · exact put_hp
    · split
      · exact put_hp
      · rfl
  · rw [on_neg (s := ⟨env, H'⟩) (o := .ld d y n ag) hm, on_neg (s := ⟨env, H⟩) (o := .ld d y n ag) hm]; rfl
theorem ev_swapL {d n : Nat} {y : Opd} {ag : Bool} {ks : List Nat} {d' : Nat} {m k : Opd} {z : AV} {s : St} (hab : ∀ t ∈ wrT (.on 4 (.ld d y n ag)), t ∉ rdT (.lookT ks d' m k z) ∧ t ∉ wrT (.lookT ks d' m k z)) (hba : ∀ t ∈ wrT (.lookT ks d' m k z), t ∉ rdT (.on 4 (.ld d y n ag)) ∧ t ∉ wrT (.on 4 (.ld d y n ag))) :
    ((ev gl s (.on 4 (.ld d y n ag))).bind fun s1 => ev gl s1 (.lookT ks d' m k z)) = (ev gl s (.lookT ks d' m k z)).bind fun s1 => ev gl s1 (.on 4 (.ld d y n ag)) := by
  generalize ha : SOp.on 4 (.ld d y n ag) = a at hab hba ⊢
  generalize hb : SOp.lookT ks d' m k z = b at hab hba ⊢
  have ka : kls a = 5 := by rw [← ha]; rfl
  have kb : kls b = 4 := by rw [← hb]; rfl
  obtain ⟨env, H⟩ := s
  have alA : ∀ us : List (Nat × Ent), (∀ p ∈ us, p.1 ∈ wrT b) → Alike a env (upds env us) := by
    intro us hus
    have hne : ∀ t, t ∈ rdT a ∨ t ∈ wrT a → ∀ p ∈ us, p.1 ≠ t := fun t ht p hp e => by
      obtain ⟨q1, q2⟩ := hba _ (hus p hp)
      rw [e] at q1 q2
      rcases ht with ht | ht
      · exact q1 ht
      · exact q2 ht
    exact ⟨fun t ht => vw_get (upds_get (hne t (.inl ht))), fun t ht => vw_get (upds_get (hne t (.inr ht))), (fun e => by rw [ka] at e; cases e), (fun e => by rw [ka] at e; cases e)⟩
  have alB : ∀ us : List (Nat × Ent), (∀ p ∈ us, p.1 ∈ wrT a) → Alike b env (upds env us) := by
    intro us hus
    have hne : ∀ t, t ∈ rdT b ∨ t ∈ wrT b → ∀ p ∈ us, p.1 ≠ t := fun t ht p hp e => by
      obtain ⟨q1, q2⟩ := hab _ (hus p hp)
      rw [e] at q1 q2
      rcases ht with ht | ht
      · exact q1 ht
      · exact q2 ht
    exact ⟨fun t ht => vw_get (upds_get (hne t (.inl ht))), fun t ht => vw_get (upds_get (hne t (.inr ht))), (fun e => by rw [kb] at e; cases e), (fun e => by rw [kb] at e; cases e)⟩
  have hselfA : Alike a env env := alA [] (by simp)
  have hselfB : Alike b env env := alB [] (by simp)
  obtain ⟨U, u1, u2, _⟩ := ev_par' (gl := gl) (H := H) (by rw [ka]; decide) hselfA
  obtain ⟨V, v1, v2, _⟩ := ev_par' (gl := gl) (H := H) (by rw [kb]; decide) hselfB
  -- a after b
  have hA : ∀ ub H', V = some (ub, H') → ev gl ⟨upds env ub, H'⟩ a = (ev gl ⟨env, H⟩ a).map fun s => ⟨upds s.env ub, H'⟩ := by
    intro ub H' e
    obtain ⟨U', q1, q2, q3⟩ := ev_par' (gl := gl) (H := H) (by rw [ka]; decide) (alA ub (v1 _ e).mem)
    have hrd := fun n p => lookT_rd (gl := gl) (s := ⟨env, H⟩) (s1 := ⟨upds env ub, H'⟩) (by rw [hb, v2, e]; rfl) (upds env ub) n p
    have := ld_over (gl := gl) (d := d) (y := y) (n := n) (ag := ag) (H := H) (H' := H') hrd
    rw [ha] at this
    rw [this, q3, q2]
    cases U' with
    | none => rfl
    | some p =>
      obtain ⟨ua, H1⟩ := p
      simp only [Option.map_some, appU, hpS]
      rw [upds_comm ub ua env]
      intro p hp q hq e
      exact (hba _ ((v1 _ ‹_›).mem p hp)).2 (by rw [e]; exact (q1 _ rfl).mem q hq)
  have hB : ∀ ua H', U = some (ua, H') → H' = H ∧ ev gl ⟨upds env ua, H⟩ b = (ev gl ⟨env, H⟩ b).map fun s => ⟨upds s.env ua, s.heap⟩ := by
    intro ua H' e
    have hh : H' = H := ro_heap (gl := gl) (s := ⟨env, H⟩) (s1 := ⟨upds env ua, H'⟩) ka (by rw [u2, e]; rfl)
    refine ⟨hh, ?_⟩
    obtain ⟨V', q1, q2, q3⟩ := ev_par' (gl := gl) (H := H) (by rw [kb]; decide) (alB ua (u1 _ e).mem)
    rw [q3, q2]
    cases V' with
    | none => rfl
    | some p =>
      obtain ⟨ub, H1⟩ := p
      simp only [Option.map_some, appU]
      rw [upds_comm ua ub env]
      intro p hp q hq e
      exact (hab _ ((u1 _ ‹_›).mem p hp)).2 (by rw [e]; exact (q1 _ rfl).mem q hq)
  cases hU : U with
  | none =>
    rw [u2, hU]
    simp only [Option.map_none, Option.bind_none]
    cases hV : V with
    | none => rw [v2, hV]; rfl
    | some p =>
      obtain ⟨ub, H'⟩ := p
      rw [v2, hV]
      simp only [Option.map_some, Option.bind_some, appU]
      rw [hA ub H' hV, u2, hU]; rfl
  | some p =>
    obtain ⟨ua, H1⟩ := p
    obtain ⟨rfl, hB'⟩ := hB ua H1 hU
    have e1 : ev gl ⟨env, H1⟩ a = some ⟨upds env ua, H1⟩ := by rw [u2, hU]; rfl
    rw [e1]
    simp only [Option.bind_some]
    rw [hB']
    cases hV : V with
    | none => rw [v2, hV]; rfl
    | some p =>
      obtain ⟨ub, H'⟩ := p
      have e2 : ev gl ⟨env, H1⟩ b = some ⟨upds env ub, H'⟩ := by rw [v2, hV]; rfl
      rw [e2]
      simp only [Option.map_some, Option.bind_some]
      rw [hA ub H' hV, e1]
      simp only [Option.map_some, Option.some.injEq, St.mk.injEq, and_true]
      refine (upds_comm _ _ _ fun p hp q hq e => ?_)
      exact (hba _ ((v1 _ hV).mem p hp)).2 (by rw [e]; exact (u1 _ hU).mem q hq)
theorem opX_bind {a b : SOp} {s : St} {K : St → Prop} (ha : ∀ s K, opX P gl D s K a ↔ ∃ s1, ev gl s a = some s1 ∧ K s1) (hb : ∀ s K, opX P gl D s K b ↔ ∃ s1, ev gl s b = some s1 ∧ K s1) :
    opX P gl D s (fun s1 => opX P gl D s1 K b) a ↔ ∃ s2, (ev gl s a).bind (fun s1 => ev gl s1 b) = some s2 ∧ K s2 := by
  rw [ha]
  constructor
  · rintro ⟨s1, h1, h2⟩
    obtain ⟨s2, h3, h4⟩ := (hb _ _).1 h2
    exact ⟨s2, by rw [h1]; exact h3, h4⟩
  · rintro ⟨s2, h1, h2⟩
    obtain ⟨s1, h3, h4⟩ := bind_some h1
    exact ⟨s1, h3, (hb _ _).2 ⟨s2, h4, h2⟩⟩
theorem swapL {d n : Nat} {y : Opd} {ag : Bool} {ks : List Nat} {d' : Nat} {m k : Opd} {z : AV} {s : St} {K : St → Prop} (hab : ∀ t ∈ wrT (.on 4 (.ld d y n ag)), t ∉ rdT (.lookT ks d' m k z) ∧ t ∉ wrT (.lookT ks d' m k z)) (hba : ∀ t ∈ wrT (.lookT ks d' m k z), t ∉ rdT (.on 4 (.ld d y n ag)) ∧ t ∉ wrT (.on 4 (.ld d y n ag))) :
    opX P gl D s (fun s1 => opX P gl D s1 K (.lookT ks d' m k z)) (.on 4 (.ld d y n ag)) ↔ opX P gl D s (fun s1 => opX P gl D s1 K (.on 4 (.ld d y n ag))) (.lookT ks d' m k z) := by
  have ha : ∀ (s : St) K, opX P gl D s K (.on 4 (.ld d y n ag)) ↔ ∃ s1, ev gl s (.on 4 (.ld d y n ag)) = some s1 ∧ K s1 := fun s K => opX_ev rfl
  have hb : ∀ (s : St) K, opX P gl D s K (.lookT ks d' m k z) ↔ ∃ s1, ev gl s (.lookT ks d' m k z) = some s1 ∧ K s1 := fun s K => opX_ev rfl
  rw [opX_bind ha hb, opX_bind hb ha, ev_swapL hab hba]
end
end AM
/-! Regions that draw their order: guarded operations, and their exchange. -/
namespace AM
open Go
section
variable {P : Program} {gl : Glob} {D : Dets} {env env2 : Env} {H H' : List AObj}

theorem wrAt_sorted {s s1 : St} {vs : List AV} {p : Adr} (hs : s.env.Sorted) (h : wrAt s vs p = some s1) : s1.env.Sorted := by
  cases p <;> simp only [wrAt] at h
  · split at h
    · split at h
      · simp at h; subst h; exact Env.Sorted.ins hs _ _
      · cases h
    · cases h
  · split at h
    · split at h
      · simp at h; subst h; exact hs
      · cases h
    · split at h
      · simp at h; subst h; exact hs
      · cases h
    · cases h
  · cases h
theorem put_sorted {s s1 : St} {t : Nat} {y : AV} (hs : s.env.Sorted) (h : s.put t y = some s1) : s1.env.Sorted := by
  simp only [St.put] at h
  split at h
  · simp at h; subst h; exact Env.Sorted.ins hs _ _
  · cases h
/-- Outcomes: sorted, and temporaries that are not written look the same; and there is one. -/
theorem opX_out {o : SOp} {s : St} {K : St → Prop} (hk : kls o ≠ 9) (hs : s.env.Sorted) (hX : opX P gl D s K o) :
    opX P gl D s (fun s' => K s' ∧ s'.env.Sorted ∧ ∀ t, t ∉ wrT o → vw s'.env t = vw s.env t) o ∧ ∃ s', K s' ∧ s'.env.Sorted ∧ ∀ t, t ∉ wrT o → vw s'.env t = vw s.env t := by
  by_cases h3 : kls o = 3
  · have hk0 : isH0 (kls o) = true := by rw [h3]; rfl
    obtain ⟨h1, s1, h2, hK⟩ := (opX_h0 (.inl hk0)).1 hX
    have hv := (evD_views hk0 h2).1
    have hso : s1.env.Sorted := by
      obtain ⟨m, o', rfl⟩ : ∃ m o', o = .on m o' := by
        cases o <;> first | exact ⟨_, _, rfl⟩ | (simp [kls] at h3; done) | skip
        all_goals (simp only [kls] at h3; split at h3 <;> cases h3)
      have hev : ev gl s (.on m o') = some s1 := h2
      simp only [ev] at hev
      split at hev
      · cases o' <;> simp only [kls] at h3
        case ldt d2 y e sz =>
          simp only [ev] at hev
          obtain ⟨p, _, hev⟩ := bind_some hev
          obtain ⟨cs, _, hev⟩ := bind_some hev
          split at hev
          · obtain ⟨s2, h5, h6⟩ := bind_some hev
            exact put_sorted (wrAt_sorted hs h5) h6
          · exact put_sorted hs hev
          · cases hev
        case st n y v =>
          simp only [ev] at hev
          obtain ⟨p, _, hev⟩ := bind_some hev
          obtain ⟨x, _, hev⟩ := bind_some hev
          split at hev
          · exact wrAt_sorted hs hev
          · cases hev
        case stt y v =>
          simp only [ev] at hev
          obtain ⟨p, _, hev⟩ := bind_some hev
          split at hev
          · obtain ⟨s2, h5, h6⟩ := bind_some hev
            exact wrAt_sorted (put_sorted hs h5) h6
          · cases hev
        all_goals (first | (cases h3; done) | (repeat' (first | (cases h3; done) | split at h3)))
      · cases hev
    exact ⟨(opX_h0 (.inl hk0)).2 ⟨h1, s1, h2, hK, hso, hv⟩, s1, hK, hso, hv⟩
  · have hx : isX0 (kls o) = true := by
      have : kls o = 0 ∨ kls o = 1 ∨ kls o = 2 ∨ kls o = 4 ∨ kls o = 5 ∨ kls o = 6 ∨ kls o = 7 := by
        cases o <;> simp only [kls] at hk h3 ⊢ <;> first | (simp; done) | skip
        case len d m y => split <;> simp
        case on m o' =>
          cases o' <;> simp only at hk h3 ⊢ <;> first | (exact absurd rfl hk) | skip
          all_goals
            first
            | (split <;> simp_all; done)
            | (split at hk <;> simp_all; done)
            | (repeat' split) <;> simp_all
        all_goals exact absurd rfl hk
      rcases this with h | h | h | h | h | h | h <;> rw [h] <;> rfl
    have hself : Alike o s.env s.env := ⟨fun _ _ => rfl, fun _ _ => rfl, fun _ _ _ => rfl, fun _ _ _ => Iff.rfl⟩
    have hX0 : opX P gl D ⟨s.env, s.heap⟩ K o := hX
    obtain ⟨q1, us, H', hu, q2⟩ := opX_par (K2 := fun s' => K s' ∧ s'.env.Sorted ∧ ∀ t, t ∉ wrT o → vw s'.env t = vw s.env t) hx hself (fun us H' hu hK =>
      ⟨hK, upds_sorted hs, fun t ht => vw_get (upds_get fun p hp e => ht (e ▸ hu.mem p hp))⟩) hX0
    exact ⟨q1, _, q2, upds_sorted hs, fun t ht => vw_get (upds_get fun p hp e => ht (e ▸ hu.mem p hp))⟩

/-- A guarded operation. -/
def itX (P : Program) (gl : Glob) (D : Dets) (s : St) (K : St → Prop) (it : It) : Prop := match guardV s.env it.g with
  | some true => opX P gl D s K it.o
  | some false => (match dstOf it.o with
    | some d => (match s.put d (.tup []) with | some s' => K s' | none => False)
    | none => K s)
  | none => False
theorem runR_cons {it : It} {r : List It} {s : St} {K : St → Prop} : runR P gl D (it :: r) s K ↔ itX P gl D s (fun s' => runR P gl D r s' K) it := by
  simp only [runR, itX]
  all_goals rfl
theorem itX_mono {it : It} {s : St} {K K' : St → Prop} (hk : ∀ s, K s → K' s) (h : itX P gl D s K it) : itX P gl D s K' it := by
  simp only [itX] at h ⊢
  split at h
  · exact opX_mono h hk
  · split at h
    · split at h
      · exact hk _ h
      · exact h
    · exact hk _ h
  · exact h
/-- What a guarded operation comes to. -/
def effO (it : It) : Bool → Option SOp
  | true => some it.o
  | false => (dstOf it.o).map fun d => .mv d (.c (.tup []))
def opX' (P : Program) (gl : Glob) (D : Dets) (s : St) (K : St → Prop) : Option SOp → Prop
  | some o => opX P gl D s K o
  | none => K s
theorem skip_opX {s : St} {d : Nat} {K : St → Prop} : opX P gl D s K (.mv d (.c (.tup []))) ↔ (match s.put d (.tup []) with | some s' => K s' | none => False) := by
  simp only [opX, ev, evO, Option.bind_some, AV.noOwn]
  all_goals exact Iff.rfl
theorem itX_eff {it : It} {s : St} {K : St → Prop} {b : Bool} (hg : guardV s.env it.g = some b) : itX P gl D s K it ↔ opX' P gl D s K (effO it b) := by
  simp only [itX, hg]
  cases b with
  | true => exact Iff.rfl
  | false =>
    simp only [effO]
    cases dstOf it.o with
    | none => exact Iff.rfl
    | some d => exact (skip_opX (P := P) (gl := gl) (D := D)).symm
def gT (it : It) : List Nat := match it.g with | some (t, _) => [t] | none => []
theorem guardV_vw {g : Option (Nat × Bool)} (h : ∀ t b, g = some (t, b) → vw env2 t = vw env t) : guardV env2 g = guardV env g := by
  cases g with
  | none => rfl
  | some p =>
    obtain ⟨t, b⟩ := p
    simp only [guardV]
    rcases vw_eq (h t b rfl) with h | ⟨cs, cs', h1, h2⟩
    · rw [h]
    · rw [h1, h2]
def roP (i j : Nat) : Bool := (i == 5 && (j == 5 || j == 6)) || (i == 6 && j == 5)
/-- A read of a cell beside the taking of a list out of a map. -/
def mapP : SOp → SOp → Bool
  | .on 4 (.ld _ _ _ _), .lookT _ _ _ _ _ => true
  | .lookT _ _ _ _ _, .on 4 (.ld _ _ _ _) => true
  | _, _ => false
theorem mapP_spec {a b : SOp} (h : mapP a b = true) : (∃ d y n ag ks d' m k z, a = .on 4 (.ld d y n ag) ∧ b = .lookT ks d' m k z) ∨ ∃ d y n ag ks d' m k z, b = .on 4 (.ld d y n ag) ∧ a = .lookT ks d' m k z := by
  unfold mapP at h
  split at h
  · exact .inl ⟨_, _, _, _, _, _, _, _, _, rfl, rfl⟩
  · exact .inr ⟨_, _, _, _, _, _, _, _, _, rfl, rfl⟩
  · cases h
/-- Two guarded operations may be exchanged. -/
def indep (a b : It) : Bool :=
  disj (wrT a.o) (gT b ++ (rdT b.o ++ wrT b.o)) && disj (wrT b.o) (gT a ++ (rdT a.o ++ wrT a.o)) &&
  (pairOk (kls a.o) (kls b.o) || roP (kls a.o) (kls b.o) || mapP a.o b.o) && pairOk (kls a.o) 0 && pairOk 0 (kls b.o)
theorem effO_spec {it : It} {b : Bool} {o : SOp} (h : effO it b = some o) : (∀ t ∈ wrT o, t ∈ wrT it.o) ∧ (∀ t ∈ rdT o, t ∈ rdT it.o) ∧ (o = it.o ∨ kls o = 0) := by
  cases b with
  | true => simp [effO] at h; subst h; exact ⟨fun _ h => h, fun _ h => h, .inl rfl⟩
  | false =>
    simp only [effO, Option.map_eq_some_iff] at h
    obtain ⟨d, hd, rfl⟩ := h
    refine ⟨fun t ht => ?_, fun t ht => by simp [rdT, opT] at ht, .inr rfl⟩
    simp [wrT, dstOf, stT] at ht
    subst ht
    exact dst_mem hd
theorem opX'_out {e : Option SOp} {s : St} {K : St → Prop} (hk : ∀ o, e = some o → kls o ≠ 9) (hs : s.env.Sorted) (hX : opX' P gl D s K e) :
    opX' P gl D s (fun s' => K s' ∧ s'.env.Sorted ∧ ∀ t, (∀ o, e = some o → t ∉ wrT o) → vw s'.env t = vw s.env t) e ∧ ∃ s', K s' ∧ s'.env.Sorted ∧ ∀ t, (∀ o, e = some o → t ∉ wrT o) → vw s'.env t = vw s.env t := by
  cases e with
  | none => exact ⟨⟨hX, hs, fun _ _ => rfl⟩, s, hX, hs, fun _ _ => rfl⟩
  | some o =>
    obtain ⟨h1, s', h2, h3, h4⟩ := opX_out (hk o rfl) hs hX
    exact ⟨opX_mono h1 fun s' hh => ⟨hh.1, hh.2.1, fun t ht => hh.2.2 t (ht o rfl)⟩, s', h2, h3, fun t ht => h4 t (ht o rfl)⟩
theorem opX'_mono {e : Option SOp} {s : St} {K K' : St → Prop} (h : opX' P gl D s K e) (hk : ∀ s, K s → K' s) : opX' P gl D s K' e := by
  cases e with
  | none => exact hk _ h
  | some o => exact opX_mono h hk
theorem itX_sorted {it : It} {s : St} {K : St → Prop} (hk : kls it.o ≠ 9) (hs : s.env.Sorted) (h : itX P gl D s K it) : itX P gl D s (fun s' => K s' ∧ s'.env.Sorted) it := by
  cases hg : guardV s.env it.g with
  | none => simp only [itX, hg] at h
  | some b =>
    rw [itX_eff hg] at h ⊢
    refine opX'_mono (opX'_out (fun o ho => ?_) hs h).1 fun s' hh => ⟨hh.1, hh.2.1⟩
    rcases (effO_spec ho).2.2 with rfl | h0
    · exact hk
    · rw [h0]; decide
theorem swapIt {a b : It} {s : St} {K : St → Prop} (ha9 : kls a.o ≠ 9) (hb9 : kls b.o ≠ 9) (hs : s.env.Sorted) (h : indep a b = true) (hX : itX P gl D s (fun s1 => itX P gl D s1 K b) a) : itX P gl D s (fun s1 => itX P gl D s1 K a) b := by
  simp only [indep, Bool.and_eq_true] at h
  obtain ⟨⟨⟨⟨d1, d2⟩, hp⟩, hp1⟩, hp2⟩ := h
  cases hga : guardV s.env a.g with
  | none => simp only [itX, hga] at hX
  | some ba =>
    rw [itX_eff hga] at hX
    have ea9 : ∀ o, effO a ba = some o → kls o ≠ 9 := fun o ho => by
      rcases (effO_spec ho).2.2 with rfl | h0
      · exact ha9
      · rw [h0]; decide
    obtain ⟨hX1, s0, hK0, hs0, hv0⟩ := opX'_out ea9 hs hX
    -- the guard of b
    have hgb : ∀ s' : St, (∀ t, (∀ o, effO a ba = some o → t ∉ wrT o) → vw s'.env t = vw s.env t) → guardV s'.env b.g = guardV s.env b.g := fun s' hv => guardV_vw fun t bb hg => hv t fun o ho hw => by
      have := disj_spec d1 ((effO_spec ho).1 t hw)
      exact this (by simp [gT, hg])
    cases hb : guardV s.env b.g with
    | none =>
      have := hgb s0 hv0
      rw [hb] at this
      simp only [itX, this] at hK0
    | some bb =>
      have eb9 : ∀ o, effO b bb = some o → kls o ≠ 9 := fun o ho => by
        rcases (effO_spec ho).2.2 with rfl | h0
        · exact hb9
        · rw [h0]; decide
      have hX2 : opX' P gl D s (fun s1 => opX' P gl D s1 K (effO b bb)) (effO a ba) := opX'_mono hX1 fun s' hh => by
        have := hgb s' hh.2.2
        rw [hb] at this
        exact (itX_eff this).1 hh.1
      rw [itX_eff hb]
      -- the exchange
      have hX3 : opX' P gl D s (fun s1 => opX' P gl D s1 K (effO a ba)) (effO b bb) := by
        cases hea : effO a ba with
        | none => rw [hea] at hX2; exact hX2
        | some oa =>
          cases heb : effO b bb with
          | none => rw [hea, heb] at hX2; exact hX2
          | some ob =>
            rw [hea, heb] at hX2
            simp only [opX'] at hX2 ⊢
            obtain ⟨wa, ra, ka⟩ := effO_spec hea
            obtain ⟨wb, rb, kb⟩ := effO_spec heb
            have ab : ∀ t ∈ wrT oa, t ∉ rdT ob ∧ t ∉ wrT ob := fun t ht => by
              have := disj_spec d1 (wa t ht)
              simp only [List.mem_append, not_or] at this
              exact ⟨fun h => this.2.1 (rb t h), fun h => this.2.2 (wb t h)⟩
            have ba' : ∀ t ∈ wrT ob, t ∉ rdT oa ∧ t ∉ wrT oa := fun t ht => by
              have := disj_spec d2 (wb t ht)
              simp only [List.mem_append, not_or] at this
              exact ⟨fun h => this.2.1 (ra t h), fun h => this.2.2 (wa t h)⟩
            have hcase : pairOk (kls oa) (kls ob) = true ∨ roP (kls oa) (kls ob) = true ∨ mapP oa ob = true := by
              rcases ka with rfl | ka
              · rcases kb with rfl | kb
                · simpa [Bool.or_eq_true, or_assoc] using hp
                · rw [kb]; exact .inl hp1
              · rcases kb with rfl | kb
                · rw [ka]; exact .inl hp2
                · rw [ka, kb]; exact .inl rfl
            rcases hcase with hok | hro | hmp
            · exact swap hs ⟨ab, ba', hok⟩ hX2
            · simp only [roP, Bool.or_eq_true, Bool.and_eq_true, beq_iff_eq] at hro
              rcases hro with ⟨h5, h56⟩ | ⟨h6, h5⟩
              · exact (swapR h5 h56 ab ba').1 hX2
              · exact (swapR h5 (.inr h6) ba' ab).2 hX2
            · rcases mapP_spec hmp with ⟨d, y, n, ag, ks, d', m, k, z, rfl, rfl⟩ | ⟨d, y, n, ag, ks, d', m, k, z, rfl, rfl⟩
              · exact (swapL ab ba').1 hX2
              · exact (swapL ba' ab).2 hX2
      -- the guard of a
      refine opX'_mono (opX'_out eb9 hs hX3).1 fun s' hh => ?_
      have : guardV s'.env a.g = guardV s.env a.g := guardV_vw fun t bb' hg => hh.2.2 t fun o ho hw => by
        have := disj_spec d2 ((effO_spec ho).1 t hw)
        exact this (by simp [gT, hg])
      rw [hga] at this
      exact (itX_eff this).2 hh.1
end
end AM
