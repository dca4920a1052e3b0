/- An abstract machine for the program of the seat, and what of the given program it does, part 11 of 16. Conditions: none. -/
import Derived.Test.YtbgaambfhmnhhaaGreatDoorAm9
import Derived.RangeFuncFrom
import Derived.TacticsIn
/-! Steps of the abstract machine within a fence; the iterator over a map's keys. Conditions: the map's values are bools. -/
namespace AM
open Go
section
variable {P : Program} {gl : Glob} {N : Nat} {g g' : Gh} {s s' : St} {a : Act} {w w' : World} {F : Fence} {n : Nat} {Q : Exit → Act → World → Prop} {ops : Array Oper} {rest : List Oper} {o : Oper}

def evs (gl : Glob) : List SOp → St → Option St
  | [], s => some s
  | o :: r, s => (ev gl s o).bind (evs gl r)
def plainOp (o : Oper) : Bool := o.guard.isNone && (match o.op with | .defer _ => false | _ => true)
def chkList (P : Program) (N : Nat) : List Oper → List SOp → Bool
  | [], [] => true
  | o :: os, so :: sos => plainOp o && chkOp P N o so && chkList P N os sos
  | _, _ => false
/-- What no operation of a list writes stays. -/
def Stays (os : List Oper) (a a' : Act) : Prop := ∀ t, (∀ o ∈ os, o.dst ≠ some t) → a'.tmps[t]? = a.tmps[t]?

theorem wanted_plain {ys : Nat → Option Bool} (h : plainOp o = true) : Region.wanted o ys = true := by
  simp only [plainOp, Bool.and_eq_true, Option.isNone_iff_eq_none] at h
  simp [Region.wanted, h.1]
theorem not_defer (h : plainOp o = true) : ∀ c, o.op ≠ .defer c := by
  intro c hc
  simp only [plainOp, Bool.and_eq_true, hc] at h
  cases h.2
theorem put_stays (v : Value) (t : Nat) (h : o.dst ≠ some t) : (a.put o.dst v).tmps[t]? = a.tmps[t]? := by
  cases ho : o.dst with
  | none => rfl
  | some d =>
    simp only [Act.put]
    rw [Array.getElem?_setIfInBounds_ne (fun e => h (by rw [ho, e]))]

theorem step_in (hF : ∀ f, F.fn f) (hp : plainOp o = true) (h : Sim1 P gl N o g a w s')
    (K : ∀ v w' g', GLe g w g' w' → Rel P gl N g' s' (a.put o.dst v) w' → wpListIn F n P ops Q rest (a.put o.dst v) w') : wpListIn F n P ops Q (o :: rest) a w := by
  obtain ⟨v, w', g', hr, h1, h2⟩ := h
  unfold wpListIn
  rw [if_pos (wanted_plain hp)]
  refine ⟨fun f _ => hF f, ?_⟩
  rw [Oper.semAt_eq _ _ _ (not_defer hp)]
  rcases hr with hr | ⟨hr, rfl⟩
  · rw [hr]; exact K v w' g' h1 h2
  · rw [hr]; exact K _ w' g' h1 h2
theorem evs_in (hF : ∀ f, F.fn f) : ∀ (os : List Oper) (sos : List SOp) {g : Gh} {s : St} {a : Act} {w : World}, chkList P N os sos = true → Rel P gl N g s a w → evs gl sos s = some s' →
    (∀ g' a' w', GLe g w g' w' → Rel P gl N g' s' a' w' → Stays os a a' → wpListIn F n P ops Q rest a' w') → wpListIn F n P ops Q (os ++ rest) a w
  | [], [], g, s, a, w, _, h, he, K => by
    simp only [evs, Option.some.injEq] at he; subst he
    exact K g a w (GLe.refl _ _) h (fun _ _ => rfl)
  | [], _ :: _, _, _, _, _, hc, _, _, _ => by simp [chkList] at hc
  | _ :: _, [], _, _, _, _, hc, _, _, _ => by simp [chkList] at hc
  | o :: os, so :: sos, g, s, a, w, hc, h, he, K => by
    simp only [chkList, Bool.and_eq_true] at hc
    obtain ⟨⟨hp, ho⟩, hr⟩ := hc
    simp only [evs] at he
    obtain ⟨s1, h1, h2⟩ := bind_some he
    refine step_in hF hp (ev_sim h ho h1) fun v w' g' q1 q2 => ?_
    refine evs_in hF os sos hr q2 h2 fun g'' a'' w'' r1 r2 r3 => K g'' a'' w'' (q1.trans r1) r2 fun t ht => ?_
    rw [r3 t (fun o' ho' => ht o' (by simp [ho'])), put_stays v t (ht o (by simp))]

/-! The map and its iterator, alone. -/
def glNo : Glob := fun _ => none
def gm (bm bi : Nat) : Gh := ⟨fun _ _ => none, fun b => if b = bm then .ob 0 else if b = bi then .ob 1 else .none, fun id => if id = 0 then some bm else if id = 1 then some bi else none⟩
def isB : AV → Bool | .bool _ => true | _ => false

theorem VR.bool_any {x : AV} {v : Value} (hx : isB x = true) (h : VR g x v) (g' : Gh) : VR g' x v := by
  cases x <;> simp [isB] at hx
  have := h.bool_inv; subst this; exact .pure _ _ (.bool _)
theorem notOwn_isB {x : AV} (hx : isB x = true) : NotOwn x := by
  cases x <;> simp [isB] at hx
  exact notOwn_bool _
theorem MapR.to {id id' b m : Nat} {es : List (AV × AV)} (h : MapR P g w id b m es) (hv : ∀ e ∈ es, isB e.2 = true) (hΩ : g'.Ω b = .ob id') : MapR P g' w id' b m es := by
  obtain ⟨arr, p1, p2, ⟨es', q1, q2, q3⟩, p4, p5, p6, p7⟩ := h
  refine ⟨arr, p1, hΩ, ⟨es', q1, q2, fun i e m he hm => ?_⟩, p4, p5, p6, p7⟩
  obtain ⟨r1, r2, r3, r4⟩ := q3 i e m he hm
  have hb := hv e (q1.mem_iff.1 (List.mem_of_getElem? he))
  exact ⟨.pure _ _ (VR.key1 r2 r1), r2, r3.bool_any hb g', (notOwn_isB hb).ownR⟩

def gm1 (bm : Nat) : Gh := ⟨fun _ _ => none, fun b => if b = bm then .ob 0 else .none, fun id => if id = 0 then some bm else none⟩
/-- The relation for a map alone. -/
theorem rel_map {id b m : Nat} {es : List (AV × AV)} (h : MapR P g w id b m es) (hv : ∀ e ∈ es, isB e.2 = true) (ha : a.tmps.size = N) (hd : a.defers = []) {t : Nat} (ht : a.tmps[t]? = some (.map (some b))) :
    Rel P glNo N (gm1 b) ⟨[(t, .v (.map 0))], [.map m es]⟩ a w := by
  have hb : b < w.heap.size := by obtain ⟨arr, p1, _⟩ := h; exact (Array.getElem?_eq_some_iff.1 p1).1
  refine ⟨by simp, ha, hd, fun u e he => ?_, fun i ob ho => ?_, (fun _ _ _ h => by cases h), fun k hk => ?_, (fun _ _ h => by cases h), fun i k hk => ?_⟩
  · simp only [Env.get] at he
    split at he
    · rename_i hu; subst hu; simp at he; subst he
      exact ⟨_, ht, .map 0 b (by simp [gm1]), .of_ne (by simp)⟩
    · cases he
  · cases i with
    | zero => simp at ho; subst ho; exact ⟨b, by simp [gm1], h.to hv (by simp [gm1])⟩
    | succ i => simp at ho
  · simp only [gm1] at hk
    split at hk
    · rename_i e; subst e; exact hb
    · exact absurd rfl hk
  · simp only [gm1] at hk
    split at hk
    · rename_i e; subst e; simp
    · cases hk

/-- A map and an iterator over it. -/
structure Mini (P : Program) (w : World) (bm bi m : Nat) (es : List (AV × AV)) (seen : List AV) : Prop where
  ne : bi ≠ bm
  mp : MapR P (gm bm bi) w 0 bm m es
  it : ∃ o, w.heap[bi]? = some o ∧ IterR (gm bm bi) w m seen (some 0) o
theorem Mini.of {bm bi m : Nat} {es : List (AV × AV)} {seen : List AV} (h : Rel P gl N g s a w) (hv : ∀ e ∈ es, isB e.2 = true) (h0 : s.heap[0]? = some (.map m es)) (h1 : s.heap[1]? = some (.iter (some 0) m seen))
    (hb : g.ρ 0 = some bm) (hi : g.ρ 1 = some bi) : Mini P w bm bi m es seen := by
  obtain ⟨b, p1, p2⟩ := h.heap 0 _ h0
  rw [hb] at p1; simp at p1; subst p1
  obtain ⟨b', o, q1, q2, q3, q4⟩ := h.heap 1 _ h1
  rw [hi] at q1; simp at q1; subst q1
  have hne : bi ≠ bm := by
    rintro rfl
    obtain ⟨arr, r1, _⟩ := p2
    rw [r1] at q2; simp at q2; subst q2
    simp [IterR] at q4
  refine ⟨hne, p2.to hv (by simp [gm]), o, q2, ?_⟩
  cases o <;> simp only [IterR] at q4
  rename_i mp s0 ss last
  cases mp with
  | none => exact q4.elim
  | some b2 =>
    obtain ⟨c1, c2, c3, c4, c5, c6⟩ := q4
    rw [hb] at c1; simp at c1; subst c1
    exact ⟨by simp [gm], by simp [gm], c3, c4, c5, c6⟩
theorem Mini.keeps {bm bi m : Nat} {es : List (AV × AV)} {seen : List AV} (h : Mini P w bm bi m es seen) (hv : ∀ e ∈ es, isB e.2 = true) (hk : KeepsWalks w w') : Mini P w' bm bi m es seen := by
  obtain ⟨hne, hm, o, ho, hit⟩ := h
  have hm' : w'.heap[bm]? = w.heap[bm]? := by obtain ⟨arr, p1, _⟩ := hm; rw [p1]; exact hk.same _ _ p1 rfl
  cases o <;> simp only [IterR] at hit
  rename_i mp s0 ss last
  have hi' : w'.heap[bi]? = w.heap[bi]? := by rw [ho]; exact hk.same _ _ ho rfl
  cases mp with
  | none => exact hit.elim
  | some b2 =>
    obtain ⟨c1, c2, c3, c4, c5, arr, k, c6, c7⟩ := hit
    have e2 : b2 = bm := by simp [gm] at c1; exact c1.symm
    subst e2
    refine ⟨hne, ?_, _, hi'.trans ho, c1, c2, c3, c4, c5.kept hm', arr, k, hm'.trans c6, c7⟩
    obtain ⟨arr, p1, p2, ⟨es', q1, q2, q3⟩, p4, p5, p6, p7⟩ := hm
    refine ⟨arr, hm'.trans p1, p2, ⟨es', q1, q2, fun i e m he hm => ?_⟩, p4, p5, p6, p7⟩
    obtain ⟨r1, r2, r3, r4⟩ := q3 i e m he hm
    exact ⟨r1, r2, r3, (notOwn_isB (hv e (q1.mem_iff.1 (List.mem_of_getElem? he)))).ownR⟩
theorem Mini.rel {bm bi m : Nat} {es : List (AV × AV)} {seen : List AV} (h : Mini P w bm bi m es seen) (ha : a.tmps.size = N) (hd : a.defers = []) {t : Nat} (ht : a.tmps[t]? = some (ptrTo bi 0)) :
    Rel P glNo N (gm bm bi) ⟨[(t, .v (.ptr 1 0))], [.map m es, .iter (some 0) m seen]⟩ a w := by
  obtain ⟨hne, hm, o, ho, hit⟩ := h
  have hb : bm < w.heap.size := by obtain ⟨arr, p1, _⟩ := hm; exact (Array.getElem?_eq_some_iff.1 p1).1
  have hi : bi < w.heap.size := (Array.getElem?_eq_some_iff.1 ho).1
  refine ⟨by simp, ha, hd, fun u e he => ?_, fun i ob hob => ?_, (fun _ _ _ h => by cases h), fun k hk => ?_, (fun _ _ h => by cases h), fun i k hk => ?_⟩
  · simp only [Env.get] at he
    split at he
    · rename_i hu; subst hu; simp at he; subst he
      exact ⟨_, ht, .ptr 1 0 bi (by simp [gm]), .of_ne (by simp)⟩
    · cases he
  · match i, hob with
    | 0, hob => simp at hob; subst hob; exact ⟨bm, by simp [gm], hm⟩
    | 1, hob => simp at hob; subst hob; exact ⟨bi, o, by simp [gm], ho, by simp [gm, hne], hit⟩
    | i + 2, hob => simp at hob
  · simp only [gm] at hk
    split at hk
    · rename_i e; subst e; exact hb
    · split at hk
      · rename_i e; subst e; exact hi
      · exact absurd rfl hk
  · simp only [gm] at hk
    split at hk
    · rename_i e; subst e; simp
    · split at hk
      · rename_i e; subst e; simp
      · cases hk
/-- How many keys have come. -/
def seenOf (w : World) (bi : Nat) : Nat := match w.heap[bi]? with | some (.mapIter _ _ ss _) => ss.size | _ => 0
theorem Mini.seen_eq {bm bi m : Nat} {es : List (AV × AV)} {seen : List AV} (h : Mini P w bm bi m es seen) : seenOf w bi = seen.length := by
  obtain ⟨hne, hm, o, ho, hit⟩ := h
  cases o <;> simp only [IterR] at hit
  rename_i mp s0 ss last
  cases mp with
  | none => exact hit.elim
  | some b2 =>
    obtain ⟨c1, c2, c3, c4, ⟨L, l1, l2, l3, _⟩, _⟩ := hit
    simp [seenOf, ho, l3]

/-! The code of the iterator of maps.Keys. -/
def isMove0 : Op → Bool | .move (.tmp t) => t == 0 | _ => false
def isYield : Op → Bool
  | .call c => (match c.callee with | .value (.tmp t) => t == 10 | _ => false) && (match c.args.toList with | [.tmp t] => t == 11 | _ => false)
  | _ => false
def chkO0 (P : Program) (N : Nat) : List Oper → Bool
  | [x0, x1] => plainOp x0 && chkLd P N x0 4 (.t 1) 1 false && plainOp x1 && chkOp P N x1 (.rng 5 (.t 4))
  | _ => false
def chkO1 (P : Program) (N : Nat) : List Oper → Bool
  | [x2, x3] => plainOp x2 && chkNxt N x2 6 (.t 5) && plainOp x3 && chkOp P N x3 (.ext 7 6 0)
  | _ => false
def chkO3 (P : Program) (N : Nat) (ldk : SOp) : List Oper → Bool
  | [y0, y1, y2, y3] => plainOp y0 && dstIs N y0 10 && isMove0 y0.op && plainOp y1 && chkOp P N y1 ldk && plainOp y2 && dstIs N y2 12 && isYield y2.op && plainOp y3 && chkOp P N y3 (.not_ 13 (.t 12))
  | _ => false
def noDst (t : Nat) (l : List Oper) : Bool := l.all fun o => o.dst != some t
def chkKeysC (P : Program) (N : Nat) (pre : List SOp) (ldk : SOp) : Code → Bool
  | .seq (.region _ o0 false) (.block b0 (.loop (.seq (.region _ o1 false) (.seq (.cond (.tmp t7) .skip (.exit b0')) (.block _ (.seq (.region _ o2 false) (.seq (.region _ o3 false) (.cond (.tmp t13) .ret .skip)))))))) =>
    b0' == b0 && t7 == 7 && t13 == 13 && decide (13 < N) && chkO0 P N o0.toList && chkO1 P N o1.toList && chkList P N o2.toList ([.entr 8 (.t 5), .ext 9 8 0] ++ pre) && chkO3 P N ldk o3.toList &&
      noDst 0 o0.toList && noDst 0 o1.toList && noDst 0 o2.toList && noDst 0 o3.toList && noDst 5 o1.toList && noDst 5 o2.toList && noDst 5 o3.toList && noDst 10 ((o3.toList.drop 1).take 1)
  | _ => false
theorem run_yieldOp {l : Nat} {x : Value} {r : Next} {w' : World} (ho : isYield o.op = true) (h0 : a.tmps[10]? = some (.func (.yield l) #[] #[])) (h1 : a.tmps[11]? = some x)
    (hr : (Instr.yield l #[x]).run P w = .ok r w') : (execOp a.eval o).run P w = .ok r w' := by
  unfold isYield at ho
  split at ho
  · rename_i c hop
    simp only [Bool.and_eq_true] at ho
    obtain ⟨h2, h3⟩ := ho
    split at h2
    · rename_i t hcal
      split at h3
      · rename_i u hargs
        simp only [beq_iff_eq] at h2 h3
        subst h2 h3
        have hga : a.eval (.tmp 10) = .func (.yield l) #[] #[] := by simp [Act.eval, Array.getD_eq_getD_getElem?, h0]
        have hgb : c.args.map a.eval = #[x] := by
          apply Array.ext'
          simp [hargs, Act.eval, Array.getD_eq_getD_getElem?, h1]
        simp only [execOp, hop, resolve, hcal, hga, hgb, Deferred.ofValue, Sem.run_bind, Sem.run_pure, Result.andThen_ok, invoke]
        simpa using hr
      · cases h3
    · cases h2
  · cases ho
theorem run_move0 {v : Value} (ho : isMove0 o.op = true) (h0 : a.tmps[0]? = some v) : (execOp a.eval o).run P w = .ok (.value v) w := by
  unfold isMove0 at ho
  split at ho
  · rename_i t hop
    simp only [beq_iff_eq] at ho; subst ho
    simp [execOp, hop, Act.eval, Array.getD_eq_getD_getElem?, h0]
  · cases ho
end
end AM
/-! The iterator of maps.Keys gives a map's keys, each once, in some order. Conditions: the map's values are bools. -/
namespace AM
open Go
section
variable {P : Program} {gl : Glob} {N : Nat} {g g' : Gh} {s s' : St} {a : Act} {w w' : World} {F : Fence} {n : Nat} {Q : Exit → Act → World → Prop} {ops : Array Oper} {rest : List Oper} {o : Oper}

def g0 : Gh := ⟨fun _ _ => none, fun _ => .none, fun _ => none⟩
/-- All that lies is outside. -/
def gA (w : World) : Gh := ⟨fun _ _ => none, fun b => if b < w.heap.size then .outer else .none, fun _ => none⟩
theorem grown_of (h : GLe (gA w) w g' w') : w.grownBy w' none :=
  ⟨congrArg Prod.fst h.os, congrArg Prod.snd h.os, h.out, h.size, fun k hk _ => (h.outer k (by simp [gA, hk])).2.1⟩
/-- The relation over data alone: some temporaries. -/
theorem rel_env (ha : a.tmps.size = N) (hd : a.defers = []) {e : List (Nat × AV)} (hs : e.Pairwise fun p q => p.1 < q.1) (he : ∀ p ∈ e, ∃ v, a.tmps[p.1]? = some v ∧ VR (gA w) p.2 v ∧ NotOwn p.2) :
    Rel P glNo N (gA w) ⟨e.map fun p => (p.1, .v p.2), []⟩ a w := by
  refine ⟨by rw [List.pairwise_map]; exact hs, ha, hd, fun t x hx => ?_, fun i ob ho => by simp at ho, (fun _ _ _ h => by cases h), fun b hb => ?_, (fun _ _ h => by cases h), (fun _ _ h => by cases h)⟩
  · have := Env.mem_of_get hx
    obtain ⟨p, hp, hpe⟩ := List.mem_map.1 this
    simp only [Prod.mk.injEq] at hpe
    obtain ⟨rfl, rfl⟩ := hpe
    obtain ⟨v, h1, h2, h3⟩ := he p hp
    exact ⟨v, h1, h2, h3.ownR⟩
  · by_cases h : b < w.heap.size
    · exact h
    · simp [gA, h] at hb

/-- What an element of the map's key is between the entry and the call: the key again. -/
def PreOk (pre : List SOp) (ldk : SOp) (k : AV) : Prop :=
  ∃ s2, evs glNo pre ⟨[(9, .v k)], []⟩ = some s2 ∧ okPut s2.env 10 = true ∧ ∃ s3, ev glNo { s2 with env := s2.env.del 10 } ldk = some s3 ∧ s3.env.get 11 = some (.v k)
theorem preOk_str (s : List UInt8) : PreOk [.mv 3 (.t 9)] (.mv 11 (.t 3)) (.str s) := ⟨_, rfl, rfl, _, rfl, rfl⟩
theorem preOk_agg (z cs : List AV) (hz : z.length = 3) (hc : cs.length = 3) (h : ∀ c ∈ cs, (match c with | .str _ | .int _ _ | .bool _ => true | _ => false) = true) : PreOk [.alloc 3 z, .st 3 (.t 3) (.t 9)] (.ld 11 (.t 3) 3 true) (.agg cs) := by
  match z, cs, hz, hc with
  | [z0, z1, z2], [c0, c1, c2], _, _ =>
    have hn : ∀ c ∈ [c0, c1, c2], c.one = true ∧ c.noOwn = c := fun c hc => by
      have := h c hc
      cases c <;> simp at this <;> exact ⟨rfl, rfl⟩
    obtain ⟨a0, b0⟩ := hn c0 (by simp)
    obtain ⟨a1, b1⟩ := hn c1 (by simp)
    obtain ⟨a2, b2⟩ := hn c2 (by simp)
    refine ⟨⟨[(3, .b [c0, c1, c2]), (9, .v (.agg [c0, c1, c2]))], []⟩, ?_, rfl, ⟨[(3, .b [c0, c1, c2]), (9, .v (.agg [c0, c1, c2])), (11, .v (.agg [c0, c1, c2]))], []⟩, ?_, rfl⟩
    · simp [evs, ev, St.putB, hasA, isA, Env.ins, adr, Env.get, evO, AV.cells, a0, a1, a2, b0, b1, b2, wrAt, setCells]
    · simp [ev, adr, Env.get, Env.del, rdAt, b0, b1, b2, St.put, okPut, Env.ins]

theorem keyNe {x y : AV} (hx : key1 x = true) (h : keyEq x y = false) : x ≠ y := fun e => by
  subst e; rw [keyEq_self hx] at h; cases h
theorem key1_notOwn {x : AV} (h : key1 x = true) : NotOwn x := by
  cases x <;> simp only [key1, Bool.false_eq_true] at h <;> exact fun _ _ _ h => by simp at h

/-- Between two rounds. -/
structure KAt (P : Program) (N l bm bi m : Nat) (es : List (AV × AV)) (J : List Value → World → Prop) (a : Act) (w : World) (seen : List AV) (xs : List Value) : Prop where
  size : a.tmps.size = N
  defers : a.defers = []
  yv : a.tmps[0]? = some (.func (.yield l) #[] #[])
  it : a.tmps[5]? = some (ptrTo bi 0)
  mini : Mini P w bm bi m es seen
  vals : VRs g0 seen xs
  nodup : seen.Nodup
  mem : ∀ k ∈ seen, k ∈ es.map (·.1)
  j : J xs w
theorem nodup_keys {b m id : Nat} {es : List (AV × AV)} (h : MapR P g w id b m es) : (es.map (·.1)).Nodup ∧ ∀ e ∈ es, key1 e.1 = true := by
  obtain ⟨arr, p1, p2, ⟨es', q1, q2, q3⟩, p4, p5, p6, p7⟩ := h
  have hk : ∀ e ∈ es, key1 e.1 = true := fun e he => by
    obtain ⟨i, hi, hie⟩ := List.getElem_of_mem (q1.mem_iff.2 he)
    exact (q3 i e _ (by rw [← hie]; exact List.getElem?_eq_getElem hi) (List.getElem?_eq_getElem (by omega))).2.1
  refine ⟨?_, hk⟩
  rw [List.Nodup, List.pairwise_map]
  exact p6.imp_of_mem fun ha hb h => keyNe (hk _ ha) h
theorem VRs.len {xs : List AV} {vs : List Value} (h : VRs g xs vs) : vs.length = xs.length := h.get.1
theorem mini_walk {bm bi m : Nat} {es : List (AV × AV)} {seen : List AV} (h : Mini P w bm bi m es seen) : ∃ o : Obj, w.heap[bi]? = some o ∧ o.isWalk = true := by
  obtain ⟨hne, hm, o, ho, hit⟩ := h
  cases o <;> simp only [IterR] at hit
  exact ⟨_, ho, rfl⟩
theorem mini_grown {bm bi m : Nat} {es : List (AV × AV)} {seen : List AV} (h : Mini P w bm bi m es seen) (hv : ∀ e ∈ es, isB e.2 = true) (hg : w.grownBy w' none) : Mini P w' bm bi m es seen :=
  h.keeps hv ⟨hg.size, fun k o hk _ => (hg.block k (Array.getElem?_eq_some_iff.1 hk).1 (by simp)).trans hk⟩

section
variable {l bm bi m : Nat} {es : List (AV × AV)} {J Jx : List Value → World → Prop} {pre : List SOp} {ldk : SOp} {seen : List AV} {xs : List Value} {i1 i2 i3 b0 b1 B : Nat} {o1 o2 o3 : Array Oper} {x2 x3 y0 y1 y2 y3 z0 z1 : Oper} {zs : List Oper}

theorem mapGet_ex {k : AV} {es : List (AV × AV)} (hk : key1 k = true) : ∀ {e}, e ∈ es → e.1 = k → ∃ v, mapGet es k = some v := by
  induction es with
  | nil => intro e h; cases h
  | cons p r ih =>
    intro e h he
    obtain ⟨k', u⟩ := p
    simp only [mapGet]
    by_cases hkk : keyEq k k' = true
    · exact ⟨u, by simp [hkk]⟩
    · rcases List.mem_cons.1 h with rfl | h
      · simp only at he; subst he; exact absurd (keyEq_self hk) hkk
      · obtain ⟨v, hv⟩ := ih h he
        exact ⟨v, by simp [hkk, hv]⟩
/-- One round of the iterator. -/
theorem keys_round (hF : ∀ f, F.fn f) (hn : F.depth.isSome = true → 1 ≤ n) (hv : ∀ e ∈ es, isB e.2 = true) (hk : ∀ e ∈ es, PreOk pre ldk e.1) (hN : 13 < N) (hB : B ≤ bi)
    (ho1 : o1.toList = [x2, x3]) (ho2 : o2.toList = z0 :: z1 :: zs) (ho3 : o3.toList = [y0, y1, y2, y3])
    (c1 : chkO1 P N [x2, x3] = true) (c2 : chkList P N (z0 :: z1 :: zs) (.entr 8 (.t 5) :: .ext 9 8 0 :: pre) = true) (c3 : chkO3 P N ldk [y0, y1, y2, y3] = true)
    (n1 : noDst 0 [x2, x3] = true) (n2 : noDst 0 (z0 :: z1 :: zs) = true) (n3 : noDst 0 [y0, y1, y2, y3] = true) (m1 : noDst 5 [x2, x3] = true) (m5 : noDst 5 (z0 :: z1 :: zs) = true) (m3 : noDst 5 [y0, y1, y2, y3] = true) (u3 : noDst 10 [y1] = true)
    (hJ : AbidesFrom B J)
    {p : Value → Prop} (hp : ∀ e ∈ es, ∀ v, VR g0 e.1 v → p v) (hY : ∀ pre x W1, J pre W1 → p x → pre.length < es.length → YieldAt F (n - 1) P l #[x] W1 fun e W' => (e = .returned (.bool true) ∧ J (pre ++ [x]) W' ∧ KeepsWalks W1 W') ∨ (e = .returned (.bool false) ∧ Jx (pre ++ [x]) W'))
    (h : KAt P N l bm bi m es J a w seen xs) (hdone : ∀ a' w', a'.defers = [] → seen.Perm (es.map (·.1)) → J xs w' → Q .normal a' w')
    (hstop : ∀ a' w' pre, a'.defers = [] → Jx pre w' → Q .ret a' w') (hJx : ∀ pre W W', Jx pre W → W.grownBy W' none → Jx pre W') (I : Act → World → Prop) (hI : ∀ a' w' k x, KAt P N l bm bi m es J a' w' (seen ++ [k]) (xs ++ [x]) → I a' w') :
    (Code.seq (.region i1 o1 false) (.seq (.cond (.tmp 7) .skip (.exit b0)) (.block b1 (.seq (.region i2 o2 false) (.seq (.region i3 o3 false) (.cond (.tmp 13) .ret .skip)))))).wpIn F n P (Exit.then I (Exit.inBlock b0 Q)) a w := by
  simp only [chkO1, chkO3, Bool.and_eq_true] at c1 c3
  obtain ⟨⟨⟨p2, k2⟩, p3⟩, k3⟩ := c1
  obtain ⟨⟨⟨⟨⟨⟨⟨⟨⟨q0, d0⟩, m0⟩, q1⟩, l1⟩, q2⟩, d2⟩, m2⟩, q3⟩, l3⟩ := c3
  simp only [noDst, List.all_cons, List.all_nil, Bool.and_true, Bool.and_eq_true, bne_iff_ne, ne_eq] at n1 n2 n3 m1 m5 m3 u3
  have hrel := h.mini.rel h.size h.defers h.it
  obtain ⟨nk, hkey⟩ := nodup_keys h.mini.mp
  have hcd : cands [AObj.map m es, .iter (some 0) m seen] (.ptr 1 0) = some (1, some 0, m, seen, es.filter fun e => !seen.any (keyEq e.1)) := by simp [cands]
  refine wpIn_seq (wpIn_region_list ?_)
  rw [ho1]
  simp only [chkNxt, Bool.and_eq_true] at k2
  obtain ⟨kd, kop⟩ := k2
  split at kop
  case h_2 => cases kop
  rename_i it' hop2
  have hd6 : x2.dst = some 6 := by simp only [dstIs, Bool.and_eq_true, beq_iff_eq] at kd; exact kd.1
  have put_t : ∀ (a : Act) (d t : Nat) (v : Value), a.tmps.size = N → d < N → (a.put (some d) v).tmps[t]? = if t = d then some v else a.tmps[t]? := fun a d t v ha hd => tmps_put (by rw [ha]; exact hd) v t
  unfold wpListIn
  rw [if_pos (wanted_plain p2)]
  refine ⟨fun f _ => hF f, ?_⟩
  rw [Oper.semAt_eq _ _ _ (not_defer p2)]
  rcases nxt_run hrel hop2 kop (x := .ptr 1 0) rfl hcd with ⟨hnil, hrun⟩ | ⟨e, he, w1, v, hrun, hle, hvr, hrel1, hgr⟩
  · -- nothing is left
    rw [hrun]
    show wpListIn F n P o1 _ [x3] (a.put x2.dst _) w
    rw [hd6]
    have hr2 : Rel P glNo N (gA w) _ (a.put (some 6) (.tuple #[.bool false])) w := rel_env (N := N) (a := a.put (some 6) (.tuple #[.bool false])) (e := [(6, .tup [.bool false])]) (by simp [Act.put, h.size]) h.defers (by simp) (fun p hp => by
      simp at hp; subst hp
      exact ⟨_, by rw [put_t _ _ _ _ h.size (by omega)]; simp, .tup _ [.bool false] (.cons _ _ _ _ (.pure _ _ (.bool _)) .nil), fun _ _ _ h => by simp at h⟩)
    refine step_in hF p3 (ev_sim hr2 k3 rfl) fun v w' g' r1 r2 => ?_
    refine wpListIn_nil ?_
    show (Code.seq _ _).wpIn F n P _ _ _
    obtain ⟨u, hu1, hu2, _⟩ := r2.env 7 (.v (.bool false)) rfl
    have := hu2.bool_inv; subst this
    refine wpIn_seq (wpIn_cond_false (by simp [Act.eval, Array.getD_eq_getD_getElem?, hu1]) (wpIn_exit ?_))
    simp only [Exit.then, Exit.inBlock, if_true]
    refine hdone _ _ r2.defers ?_ (hJ xs w w' none h.j (grown_of r1) (fun r e => by cases e))
    refine (List.perm_ext_iff_of_nodup h.nodup nk).2 fun k => ⟨h.mem k, fun hk => ?_⟩
    obtain ⟨e, he, rfl⟩ := List.mem_map.1 hk
    rw [List.filter_eq_nil_iff] at hnil
    have h2 := hnil e he
    simp only [Bool.not_eq_true, Bool.not_eq_false', List.any_eq_true] at h2
    obtain ⟨k', hk', hke⟩ := h2
    obtain ⟨e', he', hke'⟩ := List.mem_map.1 (h.mem k' hk')
    have : e.1 = k' := keyEq_eq (hkey e he) (by rw [← hke']; exact hkey e' he') hke
    rw [this]; exact hk'
  · -- an entry has come
    rw [List.mem_filter] at he
    obtain ⟨hem, hnew⟩ := he
    have hk1 := hkey e hem
    have hkn : e.1 ∉ seen := fun hmem => by
      simp only [Bool.not_eq_true', List.any_eq_false] at hnew
      exact hnew e.1 hmem (keyEq_self hk1)
    have hgr1 := hgr bi (by simp [gm])
    have hm1 : Mini P w1 bm bi m es (seen ++ [e.1]) := .of hrel1 hv (by simp) (by simp) (by simp [gm]) (by simp [gm])
    have hj1 : J xs w1 := hJ xs w w1 _ h.j hgr1 (fun r e => by cases e; exact ⟨hB, mini_walk h.mini⟩)
    have hb2 := hv e hem
    have hbn : e.2.noOwn = e.2 := by generalize e.2 = y at hb2; cases y <;> simp [isB] at hb2 <;> rfl
    have hkn2 : e.1.noOwn = e.1 := by generalize e.1 = y at hk1; cases y <;> simp only [key1, Bool.false_eq_true] at hk1 <;> rfl
    have hvt : ∀ g, VR g (.tup [.bool true, e.1, e.2]) v := by
      intro g
      obtain ⟨ws, rfl, hws⟩ := hvr.tup_inv
      cases hws with
      | cons _ _ u us h1 h2 => cases h2 with
        | cons _ _ u' us' h3 h4 => cases h4 with
          | cons _ _ u'' us'' h5 h6 =>
            cases h6
            rw [hbn] at h5
            exact .tup _ _ (.cons _ _ _ _ (h1.bool_any rfl g) (.cons _ _ _ _ (.pure _ _ (VR.key1 hk1 h3)) (.cons _ _ _ _ (h5.bool_any hb2 g) .nil)))
    rw [hrun]
    show wpListIn F n P o1 _ [x3] (a.put x2.dst _) w1
    rw [hd6]
    have hr2 : Rel P glNo N (gA w1) _ (a.put (some 6) v) w1 := rel_env (N := N) (a := a.put (some 6) v) (e := [(6, .tup [.bool true, e.1, e.2])]) (by simp [Act.put, h.size]) h.defers (by simp) (fun p hp => by
      simp at hp; subst hp
      exact ⟨_, by rw [put_t _ _ _ _ h.size (by omega)]; simp, hvt _, fun _ _ _ h => by simp at h⟩)
    refine step_in hF p3 (ev_sim hr2 k3 rfl) fun v1 w2 g2 r1 r2 => ?_
    generalize ha2 : (a.put (some 6) v).put x3.dst v1 = a2 at r2
    have s0 : a2.tmps[0]? = a.tmps[0]? := by rw [← ha2, put_stays v1 0 n1.2, put_t _ _ _ _ h.size (by omega)]; simp
    have s5 : a2.tmps[5]? = a.tmps[5]? := by rw [← ha2, put_stays v1 5 m1.2, put_t _ _ _ _ h.size (by omega)]; simp
    clear ha2
    refine wpListIn_nil ?_
    show (Code.seq _ _).wpIn F n P _ _ _
    obtain ⟨u, hu1, hu2, _⟩ := r2.env 7 (.v (.bool true)) rfl
    have := hu2.bool_inv; subst this
    refine wpIn_seq (wpIn_cond_true (by simp [Act.eval, Array.getD_eq_getD_getElem?, hu1]) (wpIn_skip ?_))
    show (Code.block _ _).wpIn F n P _ _ _
    refine wpIn_block (wpIn_seq (wpIn_region_list ?_))
    rw [ho2]
    have hg2 := grown_of r1
    have hm2 := mini_grown hm1 hv hg2
    have hj2 : J xs w2 := hJ xs w1 w2 _ hj1 hg2 (fun r e => by cases e)
    have hrel2 := hm2.rel r2.size r2.defers (s5.trans h.it)
    simp only [chkList, Bool.and_eq_true] at c2
    obtain ⟨⟨f0, f1⟩, ⟨f2, f3⟩, f4⟩ := c2
    obtain ⟨v', hv'⟩ : ∃ v', mapGet es e.1 = some v' := mapGet_ex hk1 hem rfl
    obtain ⟨x8, v8, e1, e2, e3, e4, e5⟩ := sim_entrV (s' := ⟨[(5, .v (.ptr 1 0)), (8, .v (.tup [e.1, v'.noOwn]))], [.map m es, .iter (some 0) m (seen ++ [e.1])]⟩) hrel2 f1 (by simp [ev, evO, Env.get, hv', St.put, okPut, Env.ins])
    have hd8 : z0.dst = some 8 := by simp only [dstIs, Bool.and_eq_true, beq_iff_eq] at e1; exact e1.1
    have hx8 : x8 = .tup [e.1, v'.noOwn] := by
      simp only [St.put, okPut, Env.get] at e2
      simp [Env.ins] at e2
      exact e2
    subst hx8
    obtain ⟨k', hmem', _⟩ := mapGet_mem hv'
    have hb' : isB v' = true := hv _ hmem'
    have hbn' : v'.noOwn = v' := by cases v' <;> simp [isB] at hb' <;> rfl
    rw [hbn'] at e3
    have hv8 : ∀ g, VR g (.tup [e.1, v']) v8 := by
      intro g
      obtain ⟨ws, rfl, hws⟩ := e3.tup_inv
      cases hws with
      | cons _ _ u us h1 h2 => cases h2 with
        | cons _ _ u' us' h3 h4 =>
          cases h4
          exact .tup _ _ (.cons _ _ _ _ (.pure _ _ (VR.key1 hk1 h1)) (.cons _ _ _ _ (h3.bool_any hb' g) .nil))
    unfold wpListIn
    rw [if_pos (wanted_plain f0)]
    refine ⟨fun f _ => hF f, ?_⟩
    rw [Oper.semAt_eq _ _ _ (not_defer f0), e5]
    show wpListIn F n P o2 _ (z1 :: zs) (a2.put z0.dst v8) w2
    rw [hd8]
    have z3 : Rel P glNo N (gA w2) _ (a2.put (some 8) v8) w2 := rel_env (N := N) (a := a2.put (some 8) v8) (e := [(8, .tup [e.1, v'])]) (by simp [Act.put, r2.size]) r2.defers (by simp) (fun p hp => by
      simp at hp; subst hp
      exact ⟨_, by rw [put_t _ _ _ _ r2.size (by omega)]; simp, hv8 _, fun _ _ _ h => by simp at h⟩)
    refine step_in hF f2 (ev_sim (s' := ⟨[(8, .v (.tup [e.1, v'])), (9, .v e.1)], []⟩) z3 f3 (by simp [ev, Env.get, St.put, okPut, Env.ins, hkn2])) fun v9 w3 g3 t1 t2 => ?_
    generalize ha4 : (a2.put (some 8) v8).put z1.dst v9 = a4 at t2
    have s04 : a4.tmps[0]? = a.tmps[0]? := by rw [← ha4, put_stays v9 0 n2.2.1, put_t _ _ _ _ r2.size (by omega)]; simpa using s0
    have s54 : a4.tmps[5]? = a.tmps[5]? := by rw [← ha4, put_stays v9 5 m5.2.1, put_t _ _ _ _ r2.size (by omega)]; simpa using s5
    clear ha4
    have hg3 := grown_of t1
    have hm3 := mini_grown hm2 hv hg3
    have hj3 : J xs w3 := hJ xs w2 w3 _ hj2 hg3 (fun r e => by cases e)
    obtain ⟨kv, hkv1, hkv2, _⟩ := t2.env 9 (.v e.1) rfl
    have hkv : ∀ g, VR g e.1 kv := fun g => .pure _ _ (VR.key1 hk1 hkv2)
    obtain ⟨s2, q4, q5, s3, q6, q7⟩ := hk e hem
    have z4 : Rel P glNo N (gA w3) _ a4 w3 := rel_env (N := N) (a := a4) (e := [(9, e.1)]) t2.size t2.defers (by simp) (fun p hp => by
      simp at hp; subst hp
      exact ⟨kv, hkv1, hkv _, key1_notOwn hk1⟩)
    rw [← List.append_nil zs]
    refine evs_in hF zs pre f4 z4 q4 fun g5 a5 w4 t3 t4 t5 => wpListIn_nil ?_
    show (Code.seq _ _).wpIn F n P _ a5 w4
    have s05 : a5.tmps[0]? = a.tmps[0]? := (t5 0 (fun o ho => by have := List.all_eq_true.1 n2.2.2 o ho; simpa using this)).trans s04
    have s55 : a5.tmps[5]? = a.tmps[5]? := (t5 5 (fun o ho => by have := List.all_eq_true.1 m5.2.2 o ho; simpa using this)).trans s54
    refine wpIn_seq (wpIn_region_list ?_)
    rw [ho3]
    -- the call
    have hd10 : y0.dst = some 10 := by simp only [dstIs, Bool.and_eq_true, beq_iff_eq] at d0; exact d0.1
    have hd12 : y2.dst = some 12 := by simp only [dstIs, Bool.and_eq_true, beq_iff_eq] at d2; exact d2.1
    unfold wpListIn
    rw [if_pos (wanted_plain q0)]
    refine ⟨fun f _ => hF f, ?_⟩
    rw [Oper.semAt_eq _ _ _ (not_defer q0), run_move0 m0 (s05.trans h.yv)]
    show wpListIn F n P o3 _ [y1, y2, y3] (a5.put y0.dst _) w4
    rw [hd10]
    have t6 := t4.forget (v := .func (.yield l) #[] #[]) q5 (by omega)
    refine step_in hF q1 (ev_sim t6 l1 q6) fun v7 w5 g6 u1 u2 => ?_
    generalize ha7 : (a5.put (some 10) (.func (.yield l) #[] #[])).put y1.dst v7 = a7 at u2
    have s07 : a7.tmps[0]? = a.tmps[0]? := by rw [← ha7, put_stays v7 0 n3.2.1, put_t _ _ _ _ t4.size (by omega)]; simpa using s05
    have s57 : a7.tmps[5]? = a.tmps[5]? := by rw [← ha7, put_stays v7 5 m3.2.1, put_t _ _ _ _ t4.size (by omega)]; simpa using s55
    have s107 : a7.tmps[10]? = some (.func (.yield l) #[] #[]) := by rw [← ha7, put_stays v7 10 u3, put_t _ _ _ _ t4.size (by omega)]; simp
    clear ha7
    have hg5 := grown_of (t3.trans u1)
    have hm5 := mini_grown hm3 hv hg5
    have hj5 : J xs w5 := hJ xs w3 w5 _ hj3 hg5 (fun r e => by cases e)
    obtain ⟨kx, hkx1, hkx2, _⟩ := u2.env 11 (.v e.1) q7
    have hkx : ∀ g, VR g e.1 kx := fun g => .pure _ _ (VR.key1 hk1 hkx2)
    have hnd : (seen ++ [e.1]).Nodup := by
      rw [List.nodup_append]
      exact ⟨h.nodup, by simp, fun a ha b hb => by simp at hb; subst hb; rintro rfl; exact hkn ha⟩
    have hsub : ∀ k ∈ seen ++ [e.1], k ∈ es.map (·.1) := fun k hk' => by
      rcases List.mem_append.1 hk' with hk' | hk'
      · exact h.mem k hk'
      · simp at hk'; subst hk'; exact List.mem_map.2 ⟨e, hem, rfl⟩
    have hlen : xs.length < es.length := by
      have h1 := List.Nodup.length_le_of_subset hnd (fun k hk' => hsub k hk')
      have h2 := h.vals.len
      simp at h1; omega
    obtain ⟨fn', tm, as, bd, hy, hR⟩ := hY xs kx w5 hj5 (hp e hem kx (hkx _)) hlen
    unfold wpListIn
    rw [if_pos (wanted_plain q2)]
    refine ⟨fun f _ => hF f, ?_⟩
    rw [Oper.semAt_eq _ _ _ (not_defer q2), run_yieldOp m2 s107 hkx1 hy]
    refine ⟨hn, hR.mono ?_⟩
    have key : ∀ (e' : Ending) (W' : World) (b : Bool), e' = .returned (.bool b) → (b = true → J (xs ++ [kx]) W' ∧ KeepsWalks w5 W') → (b = false → Jx (xs ++ [kx]) W') →
        wpListIn F n P o3 (Exit.then (fun a' w' => (Code.cond (.tmp 13) .ret .skip).wpIn F n P (Exit.inBlock b1 (Exit.then I (Exit.inBlock b0 Q))) a' w') (Exit.inBlock b1 (Exit.then I (Exit.inBlock b0 Q)))) [y3] (a7.put y2.dst (.bool b)) W' := by
      rintro _ W' b rfl ht hf
      rw [hd12]
      have z5 : Rel P glNo N (gA W') _ (a7.put (some 12) (.bool b)) W' := rel_env (N := N) (a := a7.put (some 12) (.bool b)) (e := [(12, .bool b)]) (by simp [Act.put, u2.size]) u2.defers (by simp) (fun p hp => by
        simp at hp; subst hp
        exact ⟨_, by rw [put_t _ _ _ _ u2.size (by omega)]; simp, .pure _ _ (.bool b), notOwn_bool b⟩)
      refine step_in hF q3 (ev_sim (s' := ⟨[(12, .v (.bool b)), (13, .v (.bool (!b)))], []⟩) z5 l3 (by simp [ev, evO, Env.get, St.put, okPut, Env.ins])) fun v13 w6 g7 x1 x2 => ?_
      generalize ha8 : (a7.put (some 12) (.bool b)).put y3.dst v13 = a8 at x2
      have s08 : a8.tmps[0]? = a.tmps[0]? := by rw [← ha8, put_stays v13 0 n3.2.2.2, put_t _ _ _ _ u2.size (by omega)]; simpa using s07
      have s58 : a8.tmps[5]? = a.tmps[5]? := by rw [← ha8, put_stays v13 5 m3.2.2.2, put_t _ _ _ _ u2.size (by omega)]; simpa using s57
      clear ha8
      refine wpListIn_nil ?_
      show (Code.cond _ _ _).wpIn F n P _ a8 w6
      have hg6 := grown_of x1
      obtain ⟨u, hu1, hu2, _⟩ := x2.env 13 (.v (.bool (!b))) rfl
      have := hu2.bool_inv; subst this
      have hev : a8.eval (.tmp 13) = .bool (!b) := by simp [Act.eval, Array.getD_eq_getD_getElem?, hu1]
      cases b with
      | true =>
        obtain ⟨hj', hk'⟩ := ht rfl
        refine wpIn_cond_false hev (wpIn_skip ?_)
        show I a8 w6
        exact hI _ _ e.1 kx ⟨x2.size, x2.defers, s08.trans h.yv, s58.trans h.it, mini_grown (hm5.keeps hv hk') hv hg6, h.vals.append (.cons _ _ _ _ (hkx _) .nil), hnd, hsub, hJ _ W' w6 _ hj' hg6 (fun r e => by cases e)⟩
      | false =>
        refine wpIn_cond_true hev (wpIn_ret ?_)
        show Q .ret a8 w6
        exact hstop _ _ _ x2.defers (hJx _ _ _ (hf rfl) hg6)
    rintro e' W' (⟨rfl, h1, h2⟩ | ⟨rfl, h1⟩)
    · exact key _ W' true rfl (fun _ => ⟨h1, h2⟩) (fun h => by cases h)
    · exact key _ W' false rfl (fun h => by cases h) (fun _ => h1)

theorem shapeO0 {l : List Oper} (h : chkO0 P N l = true) : ∃ x0 x1, l = [x0, x1] := by
  unfold chkO0 at h
  split at h
  · exact ⟨_, _, rfl⟩
  · cases h
theorem shapeO1 {l : List Oper} (h : chkO1 P N l = true) : ∃ x0 x1, l = [x0, x1] := by
  unfold chkO1 at h
  split at h
  · exact ⟨_, _, rfl⟩
  · cases h
theorem shapeO3 {ldk : SOp} {l : List Oper} (h : chkO3 P N ldk l = true) : ∃ x0 x1 x2 x3, l = [x0, x1, x2, x3] := by
  unfold chkO3 at h
  split at h
  · exact ⟨_, _, _, _, rfl⟩
  · cases h
theorem shapeO2 {a b : SOp} {pre : List SOp} : ∀ {l : List Oper}, chkList P N l (a :: b :: pre) = true → ∃ x0 x1 zs, l = x0 :: x1 :: zs
  | [], h => by simp [chkList] at h
  | [_], h => by simp [chkList] at h
  | x :: y :: r, _ => ⟨x, y, r, rfl⟩
/-- **The keys of a map come, each once, in some order**, whatever the rounds do, as long as they leave maps and iterators alone. -/
theorem keys_in (hF : ∀ f, F.fn f) (hro : F.round = none) (hn : F.depth.isSome = true → 1 ≤ n) {fk : Nat} {fn : Func} {c : Code} {pre : List SOp} {ldk : SOp} (hf : P.funcs[fk]? = some fn) (hb : fn.body = some c)
    (hres : fn.results = #[]) (hC : chkKeysC P fn.ntmps pre ldk c = true) {id bm m Bm l : Nat} {es : List (AV × AV)} (hv : ∀ e ∈ es, isB e.2 = true) (hk : ∀ e ∈ es, PreOk pre ldk e.1)
    (hm : MapR P g w id bm m es) (hbox : w.cell? ⟨Bm, 0, none⟩ = some (.map (some bm))) {J Jx : List Value → World → Prop} (hJ : AbidesFrom w.heap.size J) (hJx : ∀ pre W W', Jx pre W → W.grownBy W' none → Jx pre W')
    {p : Value → Prop} (hp : ∀ e ∈ es, ∀ v, VR g0 e.1 v → p v) (hY : ∀ pre x W1, J pre W1 → p x → pre.length < es.length → YieldAt F (n - 1) P l #[x] W1 fun e W' => (e = .returned (.bool true) ∧ J (pre ++ [x]) W' ∧ KeepsWalks W1 W') ∨ (e = .returned (.bool false) ∧ Jx (pre ++ [x]) W'))
    (h0 : J [] w) : CallsIn F n P fk #[.func (.yield l) #[] #[], ptrTo Bm 0] w fun e W' => (∃ v, e = .returned v) ∧
      ((∃ xs, (∃ ks, ks.Perm (es.map (·.1)) ∧ VRs g0 ks xs) ∧ J xs W') ∨ (∃ pre, True ∧ Jx pre W')) := by
  unfold chkKeysC at hC
  split at hC
  case h_2 => cases hC
  rename_i i0 o0 b0 i1 o1 t7 b0' b1 i2 o2 i3 o3 t13
  simp only [Bool.and_eq_true, beq_iff_eq, decide_eq_true_eq] at hC
  obtain ⟨⟨⟨⟨⟨⟨⟨⟨⟨⟨⟨⟨⟨⟨⟨rfl, rfl⟩, rfl⟩, hN⟩, c0⟩, c1⟩, c2⟩, c3⟩, n0⟩, n1⟩, n2⟩, n3⟩, m1⟩, m5⟩, m3⟩, u3⟩ := hC
  obtain ⟨x0, x1, ho0⟩ := shapeO0 c0
  obtain ⟨x2, x3, ho1⟩ := shapeO1 c1
  obtain ⟨z0, z1, zs, ho2⟩ := shapeO2 c2
  obtain ⟨y0, y1, y2, y3, ho3⟩ := shapeO3 c3
  rw [ho0] at c0 n0
  rw [ho1] at c1 n1 m1
  rw [ho2] at c2 n2 m5
  rw [ho3] at c3 n3 m3 u3
  simp only [chkO0, Bool.and_eq_true] at c0
  obtain ⟨⟨⟨p0, k0⟩, p1⟩, k1⟩ := c0
  refine callsIn_of_wp hf hb (hF _) ?_ hro
  have hsz : (#[Value.func (.yield l) #[] #[], ptrTo Bm 0] ++ Array.replicate (fn.ntmps - 2) undef).size = fn.ntmps := by simp; omega
  show Code.wpIn _ _ _ _ _ { tmps := #[Value.func (.yield l) #[] #[], ptrTo Bm 0] ++ Array.replicate (fn.ntmps - 2) undef, defers := [] } w
  generalize hT : (#[Value.func (.yield l) #[] #[], ptrTo Bm 0] ++ Array.replicate (fn.ntmps - 2) undef) = T at hsz
  have hT0 : T[0]? = some (.func (.yield l) #[] #[]) := by rw [← hT]; simp [Array.getElem?_append]
  have hT1 : T[1]? = some (ptrTo Bm 0) := by rw [← hT]; simp [Array.getElem?_append]
  clear hT
  refine wpIn_seq (wpIn_region_list ?_)
  rw [ho0]
  have hd4 : x0.dst = some 4 := by simp only [chkLd, dstIs, Bool.and_eq_true, beq_iff_eq] at k0; exact k0.1.1
  have hr0 : (execOp ({ tmps := T, defers := [] } : Act).eval x0).run P w = .ok (.value (.map (some bm))) w := by
    simp only [chkLd, Bool.and_eq_true] at k0
    obtain ⟨_, k0⟩ := k0
    split at k0
    · rename_i t x' hop
      simp only [Bool.and_eq_true] at k0
      obtain ⟨⟨hx, _⟩, hk⟩ := k0
      have hx' : x' = .tmp 1 := by unfold chkOpd at hx; split at hx <;> simp_all
      subst hx'
      have hev : ({ tmps := T, defers := [] } : Act).eval (.tmp 1) = ptrTo Bm 0 := by simp [Act.eval, Array.getD_eq_getD_getElem?, hT1]
      simp only [execOp, hop, Sem.run_bind, hev]
      split at hk
      · simp at hk
      · simp at hk
      · rename_i dsc hd1 hd2 hu'
        rw [run_load_one hu' ⟨fun fs e => hd1 fs e, fun n e e' => hd2 n e e'⟩ hbox]; rfl
      · cases hk
    · cases k0
  unfold wpListIn
  rw [if_pos (wanted_plain p0)]
  refine ⟨fun f _ => hF f, ?_⟩
  rw [Oper.semAt_eq _ _ _ (not_defer p0), hr0]
  show wpListIn F n P o0 _ [x1] (Act.put { tmps := T, defers := [] } x0.dst _) w
  rw [hd4]
  have put_t : ∀ (a : Act) (d t : Nat) (v : Value), a.tmps.size = fn.ntmps → d < fn.ntmps → (a.put (some d) v).tmps[t]? = if t = d then some v else a.tmps[t]? := fun a d t v ha hd => tmps_put (by rw [ha]; exact hd) v t
  have hR := rel_map (N := fn.ntmps) (a := Act.put { tmps := T, defers := [] } (some 4) (.map (some bm))) (t := 4) hm hv (by simp [Act.put, hsz]) rfl (by rw [put_t _ _ _ _ hsz (by omega)]; simp)
  generalize ha1 : Act.put { tmps := T, defers := [] } (some 4) (.map (some bm)) = a1 at hR
  have s01 : a1.tmps[0]? = some (.func (.yield l) #[] #[]) := by rw [← ha1, put_t _ _ _ _ hsz (by omega)]; simpa using hT0
  have s41 : a1.tmps[4]? = some (.map (some bm)) := by rw [← ha1, put_t _ _ _ _ hsz (by omega)]; simp
  clear ha1
  have hd5 : x1.dst = some 5 := by simp only [chkOp, chkRng, dstIs, Bool.and_eq_true, beq_iff_eq] at k1; exact k1.1.1
  have hr1 : (execOp a1.eval x1).run P w = .ok (.value (ptrTo w.heap.size 0)) (w.alloc (.mapIter (some bm) m #[] m)) := by
    simp only [chkOp, chkRng, Bool.and_eq_true] at k1
    obtain ⟨_, k1⟩ := k1
    split at k1
    · rename_i t x' hop
      simp only [Bool.and_eq_true] at k1
      obtain ⟨hx, hk⟩ := k1
      have hx' : x' = .tmp 4 := by unfold chkOpd at hx; split at hx <;> simp_all
      subst hx'
      have hev : a1.eval (.tmp 4) = .map (some bm) := by simp [Act.eval, Array.getD_eq_getD_getElem?, s41]
      obtain ⟨arr, p1, _⟩ := hm
      split at hk
      · rename_i kt et hu
        simp only [execOp, hop, hev, Sem.run_bind, run_range_map hu p1, Result.andThen_ok, Sem.run_pure]
      · cases hk
    · cases k1
  obtain ⟨v5, w1, g1, e1, e2, e3⟩ := ev_sim (s' := ⟨[(4, .v (.map 0)), (5, .v (.ptr 1 0))], [.map m es, .iter (some 0) m []]⟩) hR k1 (by simp [ev, evO, Env.get, St.put, okPut, Env.ins])
  have hvw : v5 = ptrTo w.heap.size 0 ∧ w1 = w.alloc (.mapIter (some bm) m #[] m) := by
    rcases e1 with e1 | ⟨e1, _⟩
    · rw [hr1] at e1; simp only [Result.ok.injEq, Next.value.injEq] at e1; exact ⟨e1.1.symm, e1.2.symm⟩
    · rw [hr1] at e1; simp only [Result.ok.injEq] at e1; exact absurd e1.1 (by simp)
  obtain ⟨rfl, rfl⟩ := hvw
  unfold wpListIn
  rw [if_pos (wanted_plain p1)]
  refine ⟨fun f _ => hF f, ?_⟩
  rw [Oper.semAt_eq _ _ _ (not_defer p1), hr1]
  rw [Oper.uponIn_value]
  refine wpListIn_nil ?_
  show (Code.block _ _).wpIn F n P _ _ _
  generalize ha2 : a1.put x1.dst (ptrTo w.heap.size 0) = a2 at e3
  have n0' : ¬x1.dst = some 0 := by simp only [noDst, List.all_cons, Bool.and_eq_true, bne_iff_ne] at n0; exact n0.2.1
  have s02 : a2.tmps[0]? = some (.func (.yield l) #[] #[]) := by rw [← ha2, put_stays _ 0 n0']; exact s01
  have s42 : a2.tmps[4]? = some (.map (some bm)) := by rw [← ha2, put_stays _ 4 (by rw [hd5]; simp)]; exact s41
  have s52 : a2.tmps[5]? = some (ptrTo w.heap.size 0) := by rw [← ha2, hd5, put_t _ _ _ _ hR.size (by omega)]; simp
  clear ha2
  obtain ⟨u4, hu4, hu4', _⟩ := e3.env 4 (.v (.map 0)) rfl
  obtain ⟨bm', hρ0, rfl⟩ := hu4'.map_inv
  obtain ⟨u5, hu5, hu5', _⟩ := e3.env 5 (.v (.ptr 1 0)) rfl
  obtain ⟨bi, hρ1, rfl⟩ := hu5'.ptr_inv
  have hbm : bm' = bm := by rw [s42] at hu4; simpa using hu4.symm
  have hbi : bi = w.heap.size := by rw [s52] at hu5; simpa [ptrTo] using hu5.symm
  subst hbm hbi
  have hgr : w.grownBy (w.alloc (.mapIter (some bm') m #[] m)) none := World.grownBy_alloc _ _ _
  have hm1 : Mini P (w.alloc (.mapIter (some bm') m #[] m)) bm' w.heap.size m es [] := .of e3 hv (by simp) (by simp) hρ0 hρ1
  have hat : KAt P fn.ntmps l bm' w.heap.size m es J a2 (w.alloc (.mapIter (some bm') m #[] m)) [] [] :=
    ⟨e3.size, e3.defers, s02, s52, hm1, .nil, by simp, by simp, hJ [] w _ none h0 hgr (fun r e => by cases e)⟩
  refine wpIn_block (wpIn_loop (fun a w' => ∃ seen xs, KAt P fn.ntmps l bm' w.heap.size m es J a w' seen xs) (fun _ w' => es.length - seenOf w' w.heap.size) ⟨[], [], hat⟩ ?_)
  rintro a3 w3 ⟨seen, xs, h3⟩
  refine keys_round (B := w.heap.size) hF hn hv hk hN (Nat.le_refl _) ho1 ho2 ho3 c1 c2 c3 n1 n2 n3 m1 m5 m3 u3 hJ hp hY h3 ?_ ?_ hJx _ ?_
  · intro a' w' hd hp hj
    exact ⟨hd, .tuple #[], by simp [results, hres], ⟨_, rfl⟩, .inl ⟨xs, ⟨seen, hp, h3.vals⟩, hj⟩⟩
  · intro a' w' pre hd hx
    exact ⟨hd, .tuple #[], by simp [results, hres], ⟨_, rfl⟩, .inr ⟨pre, trivial, hx⟩⟩
  · intro a' w' k x h'
    refine ⟨⟨_, _, h'⟩, ?_⟩
    have h1 := List.Nodup.length_le_of_subset h'.nodup (fun k hk => h'.mem k hk)
    rw [h'.mini.seen_eq, h3.mini.seen_eq]
    simp at h1 ⊢; omega
end
end
end AM
