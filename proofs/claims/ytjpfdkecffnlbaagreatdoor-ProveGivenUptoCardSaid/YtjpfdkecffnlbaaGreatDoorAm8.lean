/- An abstract machine for the program of the seat, and what of the given program it does, part 9 of 17. Conditions: none. -/
import Derived.Test.YtjpfdkecffnlbaaGreatDoorAm7
import Derived.Lib.Builder
set_option linter.unusedVariables false
set_option linter.unusedSimpArgs false
/-! The simulation of objects of a known type, and of their addresses as bare pointers. -/
namespace AM
open Go
section
variable {P:Program} {gl:aR} {N:Nat} {g g':a5} {s s':ae} {a:Act} {w w':World} {o:Oper}
def Dl (P:Program) (N:Nat) (o:Oper) (d e:Nat) (z:List AV):Bool:=b2 N o d&&(match o.op with | .alloc bH=>bH==e&&rn P e z&&hf P e z.length | _=>false)
theorem aaH {d e:Nat} {z:List AV} (h:Rel P gl N g s a w) (af:Dl P N o d e z=true) (he:au gl s (.mR d e z)=some s'):cJ P gl N o g a w s':=by
 simp only [Dl,Bool.and_eq_true] at af
 obtain ⟨aw,aD⟩:=af
 split at aD
 ·rename_i bH aE
  simp only [Bool.and_eq_true,beq_iff_eq] at aD
  obtain ⟨⟨rfl,bx⟩,cq⟩:=aD
  obtain ⟨i,v,aG,aJ,bo,cd,dV⟩:=s8 (g:=g) bx
  obtain ⟨j2,ym,bf,bu,b5,cy,eW,eF⟩:=ky cq
  rw [bf] at aG;simp at aG;subst aG
  rw [cy] at aJ;simp at aJ;subst aJ
  simp only [au] at he
  simp only [b2,Bool.and_eq_true,beq_iff_eq,decide_eq_true_eq] at aw
  obtain ⟨g',an,ar,aO,_⟩:=h.Cx cq bo cd dV (by rw [Array.length_toList,eW];exact Nat.le_mul_of_pos_left _ (by decide))
  refine ⟨ptrTo w.heap.size 0,w.alloc (.cells ym.cells bH),g',.inl ?_,by simpa using an,?_⟩
  ·simp only [execOp,aE,Sem.run_bind,yq bf cy,Result.andThen_ok,Sem.run_pure]
  ·rw [aw.1]
   have:=ar.put he aw.2 (.ptr _ 0 _ aO) (o1 _ _).fo
   simpa [ptrTo] using this
 ·cases aD
theorem aaI {P:Program} {e c:Nat} (a0:P.cellsOf e≠0) (af:1≤c):liesAt P P.depth e c 0 e 1=true:=by
 have aw:P.depth=(2*(P.types.size+Made.depth)+1)+1:=rfl
 rw [aw]
 unfold liesAt
 have aS:sameLayout P P.depth e e=true:=by
  rw [aw];unfold sameLayout;simp
 have:rowAt P (fun t=>sameLayout P P.depth t e) P.depth e c 0 1=true:=by
  conv=>lhs;rw [show P.depth=(2*(P.types.size+Made.depth)+1)+1 from rfl]
  unfold rowAt
  rw [←aw]
  simp [a0,aS,af]
 rw [this];rfl
def Dm (P:Program) (N:Nat) (o:Oper) (d:Nat) (x:aq) (e sz:Nat):Bool:=b2 N o d&&hf P e sz&&(match o.op with
 | .convert sX sY a9=>cA a9 x&&(match P.underlying sX,P.underlying sY with | some (.pointer u),some .unsafePointer=>u==e | some .unsafePointer,some (.pointer u)=>u==e | _,_=>false)
 | _=>false)
theorem aaJ {d e sz:Nat} {x:aq} (h:Rel P gl N g s a w) (af:Dm P N o d x e sz=true) (he:au gl s (.mh d x e sz)=some s'):cJ P gl N o g a w s':=by
 simp only [Dm,Bool.and_eq_true] at af
 obtain ⟨⟨aw,cq⟩,aD⟩:=af
 obtain ⟨i,z,bf,bu,b5,cy,eW,eF⟩:=ky cq
 simp only [au] at he
 split at he
 ·rename_i id ai
  split at he
  ·rename_i bH cs bG
   split at he
   ·rename_i bc
    obtain ⟨rfl,ea⟩:=bc
    obtain ⟨b,k,an,ar,aO,⟨arr,bD,ew⟩,_⟩:=h.heap _ _ bG
    have hlen:cs.length≤arr.size:=by
     obtain ⟨arr',ty,aG,aJ,_⟩:=aO
     rw [bD] at aG;simp at aG;rw [aG.1];exact aJ
    have MZ:w.shape? b=some (bH,arr.size):=by simp [World.shape?,bD]
    split at aD
    ·rename_i sX sY a9 aE
     simp only [Bool.and_eq_true] at aD
     obtain ⟨k3,qp⟩:=aD
     have ax:=ca h k3 ai
     have rI:a.eval a9=ptrTo b 0:=by
      revert ax
      generalize a.eval a9=v
      intro ax
      cases ax with
      | pure _ _ ao=>cases ao
      | ptr _ _ bE eb=>rw [an] at eb;simp at eb;subst eb;rfl
     have vD:P.cellsOf bH=sz:=by simp [Program.cellsOf,bf,bu]
     have bM:(convert sX sY (.pointer (some ⟨b,0,none⟩))).run P w=.ok (.pointer (some ⟨b,0,none⟩)) w:=by
      split at qp
      ·rename_i u R aa
       simp at qp;subst qp
       exact Lib.run_to_unsafe w ⟨b,0,none⟩ R aa bf (by omega) MZ (by show 0<arr.size;omega)
      ·rename_i u R aa
       simp at qp;subst qp
       refine Lib.run_from_unsafe w ⟨b,0,none⟩ R aa bf MZ (aaI (by omega) ?_)
       rw [vD]
       exact (Nat.one_le_div_iff b5).2 (by omega)
      ·cases qp
     refine .value h aw he (v:=ptrTo b 0) ?_ (.ptr _ 0 _ an) (fun _ _ _ h=>by simp at h)
     simp only [execOp,aE,Sem.run_bind,rI,ptrTo,bM,Result.andThen_ok,Sem.run_pure]
    ·cases aD
   ·cases he
  ·cases he
 ·cases he
end
end AM
/-! The simulation of clear on slices. -/
namespace AM
open Go
section
variable {P:Program} {gl:aR} {N:Nat} {g g':a5} {s s':ae} {a:Act} {w w':World} {o:Oper}
def Dn (P:Program) (o:Oper) (e:Nat) (z:List AV) (x:aq):Bool:=o.dst==none &&
 (match m3 o.op with | some (.clear,[a9],[t])=>cA a9 x&&rp P t e z.length&&rn P e z | _=>false)
theorem aaK {t ty e:TypeId} {base:Option Addr} {cap:Nat} (hu:P.underlying t=some (.slice e)):(Builtin.clear_ #[t] ty #[.slice base 0 cap]).run P w=.ok (.tuple #[]) w:=by
 unfold Builtin.clear_
 simp only [List.getElem?_toArray,List.getElem?_cons_zero,Sem.run_bind,run_underlying hu,Result.andThen_ok]
 cases base<;>simp [Sem.run_pure]
theorem aaL {t ty e:TypeId} {i:TypeInfo} {hj:Value} {b off n cap:Nat} (hu:P.underlying t=some (.slice e)) (av:P.info? e=some i) (bx:i.zero=some hj) (a1:n≠0)
  (aA:(storeCells ⟨b,off,none⟩ (Builtin.zeroCells hj.cells n).toList).run P w=.ok () w'):(Builtin.clear_ #[t] ty #[.slice (some ⟨b,off,none⟩) n cap]).run P w=.ok (.tuple #[]) w':=by
 obtain ⟨n,rfl⟩:∃m,n=m+1:=⟨n - 1,by omega⟩
 unfold Builtin.clear_
 simp only [List.getElem?_toArray,List.getElem?_cons_zero,Sem.run_bind,run_underlying hu,Result.andThen_ok]
 simp only [zeroValue,typeInfo,run_program,av,bx,Sem.run_bind,Result.andThen_ok,Sem.run_pure,aA]
theorem aaM {e:Nat} {z:List AV} {x:aq} (h:Rel P gl N g s a w) (af:Dn P o e z x=true) (he:au gl s (.mW e z x)=some s'):cJ P gl N o g a w s':=by
 simp only [Dn,Bool.and_eq_true,beq_iff_eq] at af
 obtain ⟨aw,aD⟩:=af
 split at aD
 ·rename_i a9 t aE
  simp only [Bool.and_eq_true] at aD
  obtain ⟨⟨ai,ab⟩,aaN⟩:=aD
  obtain ⟨hu,cq⟩:=rq ab
  obtain ⟨i,hj,bf,bu,b5,cy,eW,eF⟩:=ky cq
  obtain ⟨j2,v,aG,aJ,bo,cd,dV⟩:=s8 (g:=g) aaN
  rw [bf] at aG;simp at aG;subst aG
  rw [cy] at aJ;simp at aJ;subst aJ
  obtain ⟨nZ,bM⟩:=m4 (o:=o) aE rfl a.eval
  have ng:∀v,a.put o.dst v=a:=fun v=>by rw [aw];rfl
  have n9:∀{base cap},a.eval a9=.slice base 0 cap→cJ P gl N o g a w s:=fun {base cap} ax=>by
   refine ⟨.tuple #[],w,g,.inl ?_,dj.refl _ _,by rw [ng];exact h⟩
   rw [bM]
   simp only [builtin,List.map_cons,List.map_nil,ax,Sem.run_bind,aaK hu,Result.andThen_ok,Sem.run_pure]
  simp only [au] at he
  split at he
  ·rename_i id off n sz aB
   obtain ⟨b,k,cap,an,ar,aO,bD,ew⟩:=(ca h ai aB).oY
   split at he
   ·rename_i a1
    obtain ⟨Y8,aqP⟩:=a1
    have ea:(Builtin.zeroCells hj.cells n).toList.length=n*z.length:=by simp [Builtin.zeroCells,eW]
    have vK:(List.replicate n z).flatten.length=n*z.length:=by simp
    have hh:∀j,j<n*z.length→(Builtin.zeroCells hj.cells n).toList[j]?=hj.cells[j % z.length]?∧(List.replicate n z).flatten[j]?=z[j % z.length]?:=fun j a6=>by
     refine ⟨?_,Cy z b5 _ _ a6⟩
     have bz:j % z.length<hj.cells.size:=by rw [eW];exact Nat.mod_lt _ b5
     rw [Array.getElem?_toList]
     simp only [Builtin.zeroCells]
     rw [Array.getElem?_map,Array.getElem?_range]
     simp [eW,a6,Nat.mod_lt _ b5]
    have fR:bW g (List.replicate n z).flatten (Builtin.zeroCells hj.cells n).toList:=by
     refine .yi (by rw [ea,vK]) fun j c u af hu=>?_
     have a6:j<n*z.length:=by rw [←vK];exact (List.getElem?_eq_some_iff.1 af).1
     obtain ⟨bK,cg⟩:=hh j a6
     rw [cg] at af
     rw [bK] at hu
     obtain ⟨gF,b3,c2⟩:=bo.get.2 _ _ af
     rw [Array.getElem?_toList,hu] at b3;simp at b3;subst b3;exact c2
    have iF:∀u∈(Builtin.zeroCells hj.cells n).toList,u.oneCell'=true:=fun u hu=>by
     obtain ⟨j,a6,CA⟩:=List.getElem_of_mem hu
     have nc:j<n*z.length:=by rw [←ea];exact a6
     have aK:(Builtin.zeroCells hj.cells n).toList[j]?=some u:=by rw [List.getElem?_eq_getElem a6,CA]
     rw [(hh j nc).1] at aK
     exact cd u (List.mem_of_getElem? (by rw [Array.getElem?_toList];exact aK))
    have jd:∀c∈(List.replicate n z).flatten,cc c:=fun c af=>by
     obtain ⟨l,aN,gG⟩:=List.mem_flatten.1 af
     rw [List.eq_of_mem_replicate aN] at gG
     exact dV c gG
    obtain ⟨bE,lI,w',s1,s2,lN,aaO⟩:=B7 h (v:=ptrTo b off) (p:=.ao id off) ⟨b,an,rfl⟩ fR iF (fun j c u af _=>(jd c (List.mem_of_getElem? af)).fo) he
    simp [ptrTo] at s1
    obtain ⟨rfl,rfl⟩:=s1
    refine ⟨.tuple #[],w',g,.inl ?_,lN,by rw [ng];exact aaO⟩
    rw [bM]
    simp only [builtin,List.map_cons,List.map_nil,ew,Sem.run_bind,aaL hu bf cy (show n≠0 by omega) s2,Result.andThen_ok,Sem.run_pure]
   ·split at he
    ·rename_i a1;subst a1
     simp at he;subst he
     exact n9 ew
    ·cases he
  ·rename_i bZ sz aB
   simp at he;subst he
   obtain ⟨base,cap,ax,_⟩:=(ca h ai aB).p7
   exact n9 ax
  ·rename_i sz aB
   simp at he;subst he
   exact n9 ((ca h ai aB).m5)
  ·cases he
 ·cases aD
theorem aaP {b:Bool} {n:Nat} {x v:aq} (h:Rel P gl N g s a w) (af:o5 P o n x v=true) (he:au gl s (.iC b n x v)=some s'):cJ P gl N o g a w s':=by
 refine LW (n:=n) (x:=x) (v:=v) h af ?_
 simp only [au,Option.map_eq_some_iff] at he
 obtain ⟨H,he,rfl⟩:=he
 unfold nV at he
 split at he
 ·rename_i id off u aB aI
  have aZ:dn gl s.env x=some (.ao id off):=by
   cases x with
   | t k =>
    simp only [bl] at aB
    split at aB
    ·rename_i y aT
     simp only [Option.some.injEq] at aB;subst aB
     simp only [dn,aT]
    ·cases aB
   | c y =>
    exfalso
    simp only [o5,Bool.and_eq_true] at af
    obtain ⟨_,aD⟩:=af
    simp only [bl,Option.some.injEq] at aB;subst aB
    split at aD
    ·rename_i t a9 bP aE
     simp only [Bool.and_eq_true] at aD
     have:=aD.1.1
     cases a9 with
     | const y=>cases y<;>simp [cA,const,sU] at this
     | _=>simp [cA] at this
    ·cases aD
   | f k=>simp [bl] at aB
   | g k =>
    exfalso
    simp only [bl] at aB
    have:=h.e4 k _ aB
    cases this
  simp only [au,aZ,aI,Option.bind_some]
  split at he
  ·rename_i cs gD
   split at he
   ·rename_i bc
    obtain ⟨_,R,aa,al⟩:=bc
    simp only [Option.some.injEq] at he;subst he
    rw [if_pos ⟨R,aa⟩]
    simp only [aW,gD,List.length_map]
    rw [if_pos (by omega)]
   ·cases he
  ·rename_i e cs gD
   split at he
   ·rename_i bc
    obtain ⟨_,R,aa,al⟩:=bc
    simp only [Option.some.injEq] at he;subst he
    rw [if_pos ⟨R,aa⟩]
    simp only [aW,gD,List.length_map]
    rw [if_pos (by omega)]
   ·cases he
  ·cases he
 ·cases he
end
end AM
/-! The abstract machine's code: regions, branches, loops; its meaning in the model. -/
namespace AM
open Go
def AV.arg:AV→Bool
 | .fn _ cs=>cs.all AV.dw
 | x=>x.pure
def tt (γ:dp):a5:=⟨γ,fun _=>.none,fun _=>none⟩
def oa (γ:dp) (n:Nat):a5:=⟨γ,fun b=>if b<n then .outer else .var 0,fun _=>none⟩
def aaQ (P:Program) (γ:dp) (w:World) (r:AV) (e:Ending) (w':World):Prop :=
 ∃v dq,e=.returned v∧p4 γ dq∧w.heap.size≤w'.heap.size∧(∀b,b<w.heap.size→w'.heap[b]?=w.heap[b]?∧∀o,dq b o=γ b o)∧((w'.os,w'.tape)=(w.os,w.tape)∧w'.output=w.output) ∧
  (∀b off v,dq b off=some v→w'.cell? ⟨b,off,none⟩=some v)∧aU (oa dq w.heap.size) r v∧dX P (oa dq w.heap.size) w' (.var 0) r v
def a4 (P:Program) (gl:aR) (f:Nat) (xs:List AV) (r:AV):Prop :=
 ∀γ w vs,(∀b off v,γ b off=some v→w.cell? ⟨b,off,none⟩=some v)→(∀n x,gl n=some x→cp γ x (ptrTo n 0))→bW (tt γ) xs vs →
  Calls P f vs.toArray w (aaQ P γ w r)
def jI (H:List aM):ae:=⟨[],H⟩
def ob:Act:=⟨#[],[]⟩
def hQ (P:Program) (f:Nat):Bool:=match P.funcs[f]? with | some fn=>fn.name != "runtime.NumGoroutine"&&!fn.body.isNone | none=>false
def ec (P:Program) (gl:aR) (f:Nat) (xs:List AV) (H:List aM) (K:AV→List aM→Prop):Prop :=
 hQ P f=true∧∀g w vs,Rel P gl 0 g (jI H) ob w→bW g xs vs→(∀(i:Nat) x v,xs[i]?=some x→vs[i]?=some v→dX P g w (.var i) x v) →
  Calls P f vs.toArray w fun e w'=>∃v r H' g',e=.returned v∧K r H'∧dj g w g' w'∧Rel P gl 0 g' (jI H') ob w'∧aU g' r v∧dX P g' w' (.var 0) r v
def jJ (P:Program) (gl:aR) (f:Nat) (xs:List AV) (H:List aM) (K:AV→List aM→Prop):Prop:=ec P gl f xs H K∧∃r H',K r H'
theorem ec.mono {P:Program} {gl:aR} {f:Nat} {xs:List AV} {H:List aM} {K K':AV→List aM→Prop} (h:ec P gl f xs H K) (ab:∀r H,K r H→K' r H):ec P gl f xs H K' :=
 ⟨h.1,fun g w vs R aa al=>(h.2 g w vs R aa al).mono fun _ _ ⟨v,r,H',g',an,ar,aO⟩=>⟨v,r,H',g',an,ab _ _ ar,aO⟩⟩
theorem jJ.mono {P:Program} {gl:aR} {f:Nat} {xs:List AV} {H:List aM} {K K':AV→List aM→Prop} (h:jJ P gl f xs H K) (ab:∀r H,K r H→K' r H):jJ P gl f xs H K' :=
 ⟨h.1.mono ab,h.2.elim fun r ⟨H',h⟩=>⟨r,H',ab _ _ h⟩⟩
def fT:bR→Option Nat
 | .I d _ | .bg d _ | .hr d _ _ | .pick d _ _ _ | .bin d _ _ _ _ | .kV d _ _ _ _ | .cB d _ | .neg d _ | .conv d _ _ | .ext d _ _ | .len d _ _ | .alloc d _ | .box d _ | .g0 d _ | .iR d _ | .cz d _
 | .build d _ _ | .lit d _ _ | .aC d _ _ | .bm d _ _ _ | .jR d _ _ _ _ | .ak d _ _ _ | .gO d _ _ _ | .idx d _ _ | .hU d _ _ _ _ | .jw d _ _ _ _ _ | .app d _ _ _ _ | .bV d _ | .iS d _ _ | .lz d _ _ _ | .jS d _ _ _
 | .jx d | .look _ d _ _ _ _ | .fX _ d _ _ _ | .kX d _ | .hs d _ | .iU d _ | .kr d _ _ _ | .mi d _ _ _ | .jT d _ _ _ | .mR d _ _ | .mh d _ _ _ | .jy d _ _ _ _ _ | .mj d _ _ _ _ | .mS d _ _ _ _ | .nT d _ _ | .jU d _ _ | .mT d _ | .mU d _ _ _ | .mV d _ _ | .lB d _ _ _=>some d
 | .mW _ _ _ | .iC _ _ _ _=>none
 | .st _ _ _ | .fW _ _ | .iT _ _ _ _ | .lA _ _ _ _=>none
 | .kW _ d _ _ | .aQ d _ _ | .bF d _ _ | .eU d _ _ | .g1 d _ _ | .hK d _ _ _ | .bad d=>d
 | .on _ o=>fT o
def yX (s:ae) (t:Nat):ae:=match Env.get s.env t with
 | some (.v (.ptr id 0))=>{ s with heap:=s.heap.set id .dead }
 | some (.v (.map id))=>{ s with heap:=s.heap.set id .dead }
 | _=>s
def h3 (env:Env):Option (Nat×Bool)→Option Bool
 | none=>some true
 | some (t,want)=>match Env.get env t with | some (.v (.bool b))=>some (b==want) | some (.v (.bw []))=>some false | _=>none
abbrev cv:=Nat→List AV→Option AV
section
variable (P:Program) (gl:aR) (D:cv)
def b0 (s:ae) (K:ae→Prop):bR→Prop
 | .aQ d f xs=>match dQ gl s.env xs with
  | some vs=>(vs.map AV.aL).all AV.arg=true∧(match D f (vs.map AV.aL) with
   | some r=>a4 P gl f (vs.map AV.aL) r∧(match s.ef d r with | some s'=>K s' | none=>False)
   | none=>False)
  | none=>False
 | .bF d f xs=>match dQ gl s.env xs with
  | some vs=>jJ P gl f (vs.map AV.aL) s.heap fun r H'=>match ({ s with heap:=H' }).ef d r with | some s'=>K s' | none=>False
  | none=>False
 | .g1 d f xs=>match dQ gl s.env xs with
  | some vs=>jJ P gl f (vs.map AV.aL) s.heap fun r H'=>(∃n,H'=s.heap++List.replicate n .dead)∧match ({ s with heap:=H' }).ef d r with | some s'=>K s' | none=>False
  | none=>False
 | .hK d f u xs=>match Env.get s.env u,dQ gl s.env xs with
  | some (.v (.list (some e) sz ys)),some vs=>jJ P gl f (.list (some e) sz ys::vs.map AV.aL) s.heap fun r H'=>match (⟨s.env.ins u (.v (.list none sz ys)),H'⟩:ae).ef d r with | some s'=>K s' | none=>False
  | some (.v v),some vs=>jJ P gl f (v.aL::vs.map AV.aL) s.heap fun r H'=>match ({ s with heap:=H' }:ae).ef d r with | some s'=>K s' | none=>False
  | _,_=>False
 | .hs d it=>match (bl gl s.env it).bind (sS s.heap) with
  | some (id,m,since,seen,es)=>match es with
   | []=>(match s.put d (.bw [.bool false]) with | some s'=>K s' | none=>False)
   | bB::es=>∀e∈bB::es,match ({ s with heap:=s.heap.set id (.iter m since (seen++[e.1])) }:ae).put d (.bw [.bool true,e.1,e.2.aL]) with | some s'=>K s' | none=>False
  | none=>False
 | .eU d x xs=>match bl gl s.env x,dQ gl s.env xs with
  | some (.fn f eu),some vs=>jJ P gl f (vs.map AV.aL++eu.map AV.aL) s.heap fun r H'=>match ({ s with heap:=H' }).ef d r with | some s'=>K s' | none=>False
  | _,_=>False
 | o=>match au gl s o with | some s'=>K s' | none=>False
def gI:List ev→ae→(ae→Prop)→Prop
 | [],s,K=>K s
 | it::r,s,K=>match h3 s.env it.g with
  | some true=>b0 P gl D s (fun s'=>gI r s' K) it.o
  | some false=>(match fT it.o with
   | some d=>(match s.put d (.bw []) with | some s'=>gI r s' K | none=>False)
   | none=>gI r s K)
  | none=>False
def aaR (F:ae→(fO→ae→Prop)→Prop) (s:ae) (Q:fO→ae→Prop):Prop :=
 ∀X:ae→Prop,(∀s,F s (fun e s'=>match e with | .normal=>X s' | e=>Q e s')→X s)→X s
def exec:ay→ae→(fO→ae→Prop)→Prop
 | .skip,s,Q=>Q .normal s
 | .U b6 lP,s,Q=>gI P gl D b6 s fun s'=>Q .normal { s' with env:=s'.env.close lP }
 | .seq a b,s,Q=>exec a s fun e s'=>match e with | .normal=>exec b s' Q | e=>Q e s'
 | .cond c a b,s,Q=>match bl gl s.env c with
  | some (.bool t)=>if t=true then exec a s Q else exec b s Q
  | _=>False
 | .block id c,s,Q=>exec c s fun e s'=>match e with | .exit i=>if i=id then Q .normal s' else Q (.exit i) s' | e=>Q e s'
 | .loop c,s,Q=>aaR (fun s Q=>exec c s Q) s Q
 | .exit id,s,Q=>Q (.exit id) s
 | .ret,s,Q=>Q .ret s
 | .sQ t c,s,Q=>(match Env.get s.env t with
   | some (.v (.list _ _ xs))=>xs.length≤M→exec c s Q
   | some (.v (.str l))=>l.length≤M→exec c s Q
   | _=>False)
 | .drop bk c,s,Q=>exec c { s with env:=s.env.close bk } Q
 | .jV t e sz c,s,Q=>(match rH s t e sz with | some s'=>exec c s' Q | none=>False)
 | .mX t off e sz c,s,Q=>(match yW s t off e sz with | some s'=>exec c s' Q | none=>False)
 | .kill t c,s,Q=>exec c (yX s t) Q
 | .bad,_,_=>False
end
inductive a2 where
 | t (n:Nat)
 | b (n sz:Nat)
def tu (env:Env):a2→Option AV
 | .t n=>match Env.get env n with | some (.v x)=>some x | _=>none
 | .b n sz=>match Env.get env n with | some (.b cs)=>if cs.length=sz then some (.agg (cs.map AV.aL)) else none | _=>none
def tv (env:Env):List a2→Option (List AV)
 | []=>some []
 | r::rs=>match tu env r,tv env rs with | some x,some xs=>some (x.aL::xs) | _,_=>none
def mw (env:Env):List a2→Option AV
 | [r]=>tu env r
 | rs=>(tv env rs).map .bw
-- the checker
section
variable (P:Program) (N:Nat)
def qq (N:Nat) (o:Oper):Option Nat→Bool
 | some d=>b2 N o d
 | none=>o.dst==none
def hA (o:Oper):bR→Bool
 | .I d x=>sV N o d x
 | .bg d x=>sV N o d (.t x)
 | .hr d e sz=>BD P N o d e sz
 | .pick d c a b=>BE N o d c a b
 | .bin d m op x y=>BI P N o d m op x y
 | .kV d ne az x y=>BK P N o d ne az x y
 | .cB d x=>BF N o d x
 | .neg d x=>BG N o d x
 | .conv d k x=>BH P N o d k x
 | .ext d x i=>BO N o d x i
 | .len d m x=>BR P N o d m x
 | .alloc d z=>vx P N o d z
 | .box d x=>qb N o d x
 | .g0 d z=>B4 P N o d z
 | .iR d x=>B5 N o d x
 | .build d z parts=>Cl P N o d z parts
 | .lit d sz xs=>s9 P N o d sz xs
 | .aC d x off=>BT P N o d x off
 | .bm d sz x i=>BU P N o d sz x i
 | .ak d x n ag=>p8 P N o d x n ag
 | .gO d x e sz=>Cc P N o d x e sz
 | .st n x v=>o5 P o n x v
 | .fW x v=>o5 P o 1 x (.t v)
 | .idx d x i=>BV P N o d x i
 | .hU d sz x aX av=>BX P N o d sz x aX av
 | .app d u x e sz=>td P N o d u x e sz
 | .bV d x=>B2 N o d x
 | .iS d f eu=>B3 N o d f eu
 | .lz d c e sz=>Cn P N o d c e sz
 | .jS d fz x y=>B1 N o d fz x y
 | .mR d e z=>Dl P N o d e z
 | .mh d x e sz=>Dm P N o d x e sz
 | .jx d=>CF N o d
 | .look az d m k zero ok=>CH P N o az d m k zero ok
 | .fX az d m k zero=>CX P N o az d m k zero
 | .iT az m k v=>vR P o az m k v
 | .lA az m k v=>CU P o az m k v
 | .kW az d m k=>CV P N o az d m k
 | .kX d m=>vS P N o d m
 | .hs d it=>yL N o d it
 | .iU d it=>yM N o d it
 | .nT d x sz=>Da P N o d x sz
 | .mj d u x e sz=>tq P N o d u x e sz
 | .mS d u x e sz=>tq P N o d u x e sz
 | .jy d e sz sb u x=>Dg P N o d e sz sb u x
 | .mT d x=>Dc N o d x
 | .mU d e x n=>Dd P N o d e x n
 | .mV d f x=>tr P N o d f "internal/abi.NoEscape" [x]
 | .iC b n x v=>o5 P o n x v
 | .mW e z x=>Dn P o e z x
 | .lB d f x y=>tr P N o d f "internal/bytealg.abigen_runtime_cmpstring" [x,y]
 | .aQ d f xs | .bF d f xs | .g1 d f xs=>qq N o d&&hQ P f&&(match o.op with | .call c=>(match c.callee with | .value (.func eR)=>eR==f&&gQ c.args.toList xs | _=>false) | _=>false)
 | .hK d f u xs=>qq N o d&&hQ P f&&(match o.op with | .call c=>(match c.callee with | .value (.func eR)=>eR==f&&gQ c.args.toList (.t u::xs) | _=>false) | _=>false)
 | .eU d x xs=>qq N o d&&(match o.op with | .call c=>(match c.callee with | .value y=>cA y x&&gQ c.args.toList xs | _=>false) | _=>false)
 | .cz d x=>qb N o d x
 | .jU d ne x=>Cs P N o d ne x
 | .mi d e sz xs=>vJ P N o d e sz xs
 | .jR d x n sz i=>Cu P N o d x n sz i
 | .jw d x n sz aX av=>Cw P N o d x n sz aX av
 | .kr d e sz xs=>CB P N o d e sz xs
 | .jT d e z x=>Cz P N o d e z x
 | .on _ iu=>hA o iu
 | .bad _=>true
def yY (ops:Array Oper) (o:Oper) (it:ev):Bool :=
 match o.guard,it.g with
 | none,none=>true
 | some (j,want),some (t,M0)=>want==M0&&((ops[j]?).bind (·.dst))==some t
 | _,_=>false
def yZ (o:Oper) (iu:bR):Bool:=match fT iu with | some d=>o.dst==some d&&decide (d<N) | none=>o.dst==none
def tw (ops:Array Oper):List Oper→List ev→Bool
 | [],[]=>true
 | o::os,it::b6=>yY ops o it&&yZ N o it.o&&hA P N o it.o&&tw ops os b6
 | _,_=>false
end
end AM
/-! The abstract machine's steps are the model's: operations, calls, regions. -/
namespace AM
open Go
section
variable {P:Program} {gl:aR} {D:cv} {N:Nat} {g g':a5} {s s':ae} {a:Act} {w w':World} {o:Oper}
theorem pn {iu:bR} (h:Rel P gl N g s a w) (af:hA P N o iu=true) (he:au gl s iu=some s'):cJ P gl N o g a w s':=by
 cases iu<;>simp only [hA] at af
 case I d x=>exact XU h af he
 case bg d x=>exact XV h af he
 case hr d e sz=>exact XW h af he
 case pick d c a b=>exact XX h af he
 case bin d m op x y=>exact Yf h af he
 case kV d ne az x y=>exact Yd h af he
 case cB d x=>exact XY h af he
 case neg d x=>exact XZ h af he
 case conv d k x=>exact X0 h af he
 case ext d x i=>exact Yh h af he
 case len d m x=>exact Ym h af he
 case alloc d z=>exact YJ h af he
 case box d x=>exact YK h af he
 case g0 d z=>exact YL h af he
 case iR d x=>exact YM h af he
 case build d z parts=>exact YU h af he
 case lit d sz xs=>exact YR h af he
 case aC d x off=>exact Yr h af he
 case bm d sz x i=>exact Ys h af he
 case ak d x n ag=>exact Yo h af he
 case gO d x e sz=>exact YP h af he
 case st n x v=>exact LW h af he
 case fW x v=>exact YO h af he
 case idx d x i=>exact Yu h af he
 case hU d sz x aX av=>exact Yz h af he
 case app d u x e sz=>exact Y1 h af he
 case bV d x=>exact YD h af he
 case iS d f eu=>exact YF h af he
 case lz d c e sz=>exact YV h af he
 case jS d fz x y=>exact YC h af he
 case bad=>cases he
 case on m rJ =>
  simp only [au] at he
  split at he
  ·exact pn h af he
  ·cases he
 case kr d e sz xs=>exact Zj h af he
 case jT d e z x=>exact Zg h af he
 case jR d x n sz i=>exact Zb h af he
 case jw d x n sz aX av=>exact Zd h af he
 case cz d x=>exact Y4 h af he
 case jU d ne x=>exact Y6 h af he
 case mi d e sz xs=>exact Y7 h af he
 case aQ=>cases he
 case bF=>cases he
 case eU=>cases he
 case g1=>cases he
 case hK=>cases he
 case hs=>cases he
 case jx d=>exact Zo h af he
 case look az d m k zero ok=>exact Zv h af he
 case fX az d m k zero=>exact ZR h af he
 case iT az m k v=>exact ZF h af he
 case lA az m k v=>exact ZG h af he
 case kW az d m k=>exact ZO h af he
 case kX d m=>exact ZU h af he
 case iU d it=>exact Z1 h af he
 case nT d x sz=>exact aaa h af he
 case mj d u x e sz=>exact aac h af he
 case mS d u x e sz=>exact aaB h af he
 case jy d e sz sb u x=>exact aaw h af he
 case mT d x=>exact aad h af he
 case mU d e x n=>exact aah h af he
 case mR d e z=>exact aaH h af he
 case mh d x e sz=>exact aaJ h af he
 case mV d f x=>exact aan h af he
 case lB d f x y=>exact aaq h af he
 case mW e z x=>exact aaM h af he
 case iC b n x v=>exact aaP h af he
def nk (P:Program) (gl:aR) (N:Nat) (g:a5) (w:World) (K:ae→Prop) (bO:Act) (w':World):Prop:=∃s' g',K s'∧dj g w g' w'∧Rel P gl N g' s' bO w'
theorem cJ.wp {K:ae→Prop} {Q:Exit→Act→World→Prop} (h:cJ P gl N o g a w s') (cW:K s'):o.wp P a w (nk P gl N g w K) Q:=by
 obtain ⟨v,w',g',aA,R,aa⟩:=h
 unfold Oper.wp
 rcases aA with aA | ⟨aA,rfl⟩
 ·rw [aA];exact ⟨s',g',cW,R,aa⟩
 ·rw [aA];exact ⟨s',g',cW,R,aa⟩
theorem aaS {f:Nat} (h:hQ P f=true):∃fn,P.funcs[f]?=some fn∧(fn.name== "runtime.NumGoroutine")=false∧fn.body.isNone=false:=by
 unfold hQ at h
 split at h
 ·rename_i fn aP
  simp only [Bool.and_eq_true,bne_iff_ne,Bool.not_eq_true'] at h
  exact ⟨fn,aP,by simpa using h.1,h.2⟩
 ·cases h
theorem v7 {f:Nat} {args:Array Value} (h:hQ P f=true):(callFunc f args).run P w=.ok (.enter f args) w:=by
 obtain ⟨fn,R,aa,al⟩:=aaS h
 simp only [callFunc,Sem.run_bind,run_program,Result.andThen_ok,R,aa,Bool.false_eq_true,if_false,al,Sem.run_pure]
theorem bW.aaT {cs:List AV} {ws:List Value} (h:bW g cs ws) (ai:cs.all AV.dw=true):bW (tt g.γ) cs ws:=by
 induction ws generalizing cs with
 | nil=>cases h;exact .nil
 | cons u us ih=>cases h with
  | cons c cs _ _ R aa =>
   simp only [List.all_cons,Bool.and_eq_true] at ai
   exact .cons _ _ _ _ (.pure _ _ (R.Cd ai.1)) (ih aa ai.2)
theorem M1 {x:AV} {v:Value} (h:aU g x v) (ai:x.arg=true):aU (tt g.γ) x v:=by
 by_cases aP:∃f cs,x=.fn f cs
 ·obtain ⟨f,cs,rfl⟩:=aP
  cases h with
  | pure _ _ h=>cases h
  | fn _ _ ws h=>exact .fn _ _ _ (h.aaT ai)
 ·have:x.pure=true:=by cases x<;>first | exact ai | exact absurd ⟨_,_,rfl⟩ aP
  exact .pure _ _ (h.Cf this)
theorem Dp {xs:List AV} {vs:List Value} (h:bW g xs vs) (ai:xs.all AV.arg=true):bW (tt g.γ) xs vs:=by
 induction vs generalizing xs with
 | nil=>cases h;exact .nil
 | cons u us ih=>cases h with
  | cons c cs _ _ R aa =>
   simp only [List.all_cons,Bool.and_eq_true] at ai
   exact .cons _ _ _ _ (M1 R ai.1) (ih aa ai.2)
theorem Rel.ef (h:Rel P gl N g s a w) {d:Option Nat} {x:AV} {v:Value} (ao:s.ef d x=some s') (aw:qq N o d=true) (ax:aU g x v) (aE:dX P g w (.var (d.getD 0)) x v) :
  Rel P gl N g s' (a.put o.dst v) w:=by
 cases d with
 | none =>
  simp [ae.ef] at ao;subst ao
  simp only [qq,beq_iff_eq] at aw
  rw [aw];exact h
 | some d =>
  simp only [qq,b2,Bool.and_eq_true,beq_iff_eq,decide_eq_true_eq] at aw
  rw [aw.1]
  exact h.put ao aw.2 ax aE
theorem aaU {d:Option Nat} {f:Nat} {xs:List aq} {us:List AV} {r:AV} {K:ae→Prop} {Q:Exit→Act→World→Prop} (h:Rel P gl N g s a w)
  (af:hA P N o (.aQ d f xs)=true) (he:dQ gl s.env xs=some us) (aZ:(us.map AV.aL).all AV.arg=true) (aw:a4 P gl f (us.map AV.aL) r) (ao:s.ef d r=some s') (cW:K s') :
  o.wp P a w (nk P gl N g w K) Q:=by
 simp only [hA,Bool.and_eq_true] at af
 obtain ⟨⟨kG,lQ⟩,aD⟩:=af
 split at aD
 ·rename_i c aE
  split at aD
  ·rename_i eR gG
   simp only [Bool.and_eq_true,beq_iff_eq] at aD
   obtain ⟨rfl,gR⟩:=aD
   have k9:=(oV h gR he).aL
   have bM:(execOp a.eval o).run P w=.ok (.enter eR (c.args.toList.map a.eval).toArray) w:=by
    have e:(List.map a.eval c.args.toList).toArray=c.args.map a.eval:=by apply Array.ext';simp
    simp only [execOp,aE,resolve,gG,Act.eval,Deferred.ofValue,Sem.run_bind,Sem.run_pure,Result.andThen_ok,invoke]
    rw [v7 lQ]
    simp only [Result.ok.injEq,Next.enter.injEq,true_and,and_true]
    rw [←e];simp
   unfold Oper.wp
   rw [bM]
   refine (aw g.γ w _ h.dY h.e4 (Dp k9 aZ)).mono fun e w' rK=>?_
   obtain ⟨v,dq,rfl,R,aa,al,fS,aY,bn,cw⟩:=rK
   let bX:a5:=⟨dq,fun b=>if b<w.heap.size then g.bd b else if v.ownBlock=some b then .var (d.getD 0) else .none,g.b4⟩
   have hle:GhLe g bX:=⟨R,fun _ _ h=>h⟩
   have j3:∀b,g.bd b≠.none→bX.bd b=g.bd b∧w'.heap[b]?=w.heap[b]?∧∀o,bX.γ b o=g.γ b o:=fun b ah=>by
    have bz:=h.own b ah
    exact ⟨by simp [bX,bz],(al b bz).1,(al b bz).2⟩
   have dx:∀b,v.ownBlock=some b→(∃e sz xs,r=.list (some e) sz xs)→b<w'.heap.size∧w.heap.size≤b:=by
    intro b ah ⟨e,sz,xs,aA⟩
    obtain ⟨i,z,vs,aG,aJ,bo,cd,dV,fY,jY,pf,pg⟩:=cw e sz xs aA
    have q:=(pg b ah).1
    refine ⟨(pf.lt b ah).2,?_⟩
    simp only [oa] at q
    by_cases bz:b<w.heap.size
    ·simp [bz] at q
    ·omega
   -- without ownership the block of the result is nobody's
   by_cases aA:∃e sz xs,r=.list (some e) sz xs
   ·have gb:Rel P gl N bX s a w':=h.step .none (hX.none s) hle (fun b ah=>j3 b ah.1) aY (fun b ah=>by
     by_cases bz:b<w.heap.size
     ·omega
     ·simp [bX,bz] at ah;exact (dx b ah aA).1) h.er
    refine ⟨s',bX,cW,⟨hle,fun b ah=>?_,aa,fS.1,fS.2⟩,?_⟩
    ·obtain ⟨an,ar,aO⟩:=j3 b (by rw [ah];simp);exact ⟨an.trans ah,ar,aO⟩
    ·refine gb.ef ao kG (bn.mono (⟨fun _ _ _ h=>h,fun _ _ h=>by cases h⟩:GhLe (oa dq w.heap.size) bX)) ?_
     intro e sz xs ai
     obtain ⟨i,z,vs,aG,aJ,bo,cd,dV,fY,jY,pf,pg⟩:=cw e sz xs ai
     refine ⟨i,z,vs,aG,aJ,bo,cd,dV,fY,jY,pf,fun b ah=>?_⟩
     have q:=dx b ah aA
     exact ⟨by simp [bX,show ¬b<w.heap.size by omega,ah],(pg b ah).2⟩
   ·let bQ:a5:=⟨dq,fun b=>if b<w.heap.size then g.bd b else .none,g.b4⟩
    have la:GhLe g bQ:=⟨R,fun _ _ h=>h⟩
    have v8:∀b,g.bd b≠.none→bQ.bd b=g.bd b∧w'.heap[b]?=w.heap[b]?∧∀o,bQ.γ b o=g.γ b o:=fun b ah=>by
     have bz:=h.own b ah
     exact ⟨by simp [bQ,bz],(al b bz).1,(al b bz).2⟩
    have gb:Rel P gl N bQ s a w':=h.step .none (hX.none s) la (fun b ah=>v8 b ah.1) aY (fun b ah=>by
     by_cases bz:b<w.heap.size
     ·omega
     ·simp [bQ,bz] at ah) h.er
    refine ⟨s',bQ,cW,⟨la,fun b ah=>?_,aa,fS.1,fS.2⟩,?_⟩
    ·obtain ⟨an,ar,aO⟩:=v8 b (by rw [ah];simp);exact ⟨an.trans ah,ar,aO⟩
    ·exact gb.ef ao kG (bn.mono (⟨fun _ _ _ h=>h,fun _ _ h=>by cases h⟩:GhLe (oa dq w.heap.size) bQ)) (.jX fun e sz xs ai=>aA ⟨e,sz,xs,ai⟩)
  ·cases aD
 ·cases aD
end
end AM
/-! The abstract machine's calls over the heap, regions and code are the model's. -/
namespace AM
open Go
section
variable {P:Program} {gl:aR} {D:cv} {N:Nat} {g g':a5} {s s':ae} {a:Act} {w w':World} {o:Oper}
def dh.out:dh→dh
 | .none=>.none
 | .bt id=>.bt id
 | .oc id i=>.oc id i
 | _=>.outer
theorem M3 {x:dh} (h:x.out≠.none):x≠.none:=by rintro rfl;exact h rfl
theorem Rel.M4 (h:Rel P gl N g s a w) (bd:Nat→dh) (aaV:∀b,(∃id,g.bd b=.bt id)∨(∃id i,g.bd b=.oc id i)→bd b=g.bd b) (ah:∀b,bd b≠.none→b<w.heap.size) :
  Rel P gl 0 ⟨g.γ,bd,g.b4⟩ (jI s.heap) ob w:=by
 refine ⟨.nil,rfl,rfl,fun t e he=>by simp [jI,Env.get] at he,fun id bt bh=>?_,h.dY,ah,h.e4,h.er⟩
 refine (h.heap id bt bh).kept (g':=⟨g.γ,bd,g.b4⟩) (w':=w) (K:=fun o=>(∃i,o=.bt i)∨∃i j,o=.oc i j) ⟨fun _ _ _ h=>h,fun _ _ h=>h⟩ (fun b ah=>⟨aaV b ?_,rfl,fun _=>rfl⟩) (fun i=>.inl ⟨i,rfl⟩) (fun i=>.inr ⟨id,i,rfl⟩)
 exact ah
theorem M5 {d:Option Nat} {f:Nat} {xs:List AV} {vs:List Value} {K:ae→Prop} {Q:Exit→Act→World→Prop} (h:Rel P gl N g s a w) (aw:qq N o d=true)
  (aA:(execOp a.eval o).run P w=.ok (.enter f vs.toArray) w) (bd:Nat→dh) (jb:∀b,g.bd b≠.none→bd b=(g.bd b).out) (CY:∀b,bd b≠.none→b<w.heap.size)
  (ax:bW ⟨g.γ,bd,g.b4⟩ xs vs) (a1:∀(i:Nat) x v,xs[i]?=some x→vs[i]?=some v→dX P ⟨g.γ,bd,g.b4⟩ w (.var i) x v)
  (nm:ec P gl f xs s.heap fun r H'=>match ({ s with heap:=H' }:ae).ef d r with | some s'=>K s' | none=>False):o.wp P a w (nk P gl N g w K) Q:=by
 unfold Oper.wp
 rw [aA]
 have jH:∀b,(g.bd b).out=.outer→bd b=.outer:=fun b ah=>by rw [jb b (fun e=>by rw [e] at ah;cases ah),ah]
 have nj:=h.M4 bd (fun b ah=>by
  rcases ah with ⟨id,ah⟩ | ⟨id,i,ah⟩<;>rw [jb b (by rw [ah];simp),ah]<;>rfl) CY
 refine (nm.2 ⟨g.γ,bd,g.b4⟩ w vs nj ax a1).mono fun e w' rK=>?_
 obtain ⟨v,r,H',g',rfl,cW,hle,gb,fR,y0⟩:=rK
 split at cW
 ·rename_i s' eD
  let bX:a5:=⟨g'.γ,fun b=>if (g.bd b).out=.outer then g.bd b else if g'.bd b=.var 0 then .var (d.getD 0) else g'.bd b,g'.b4⟩
  have y1:GhLe g bX:=⟨hle.γ,hle.b4⟩
  have la:GhLe g' bX:=⟨fun _ _ _ h=>h,fun _ _ h=>h⟩
  have M6:∀b,(g.bd b).out=.outer→bX.bd b=g.bd b∧w'.heap[b]?=w.heap[b]?∧∀o,bX.γ b o=g.γ b o:=fun b ah=>by
   obtain ⟨an,ar,aO⟩:=hle.outer b (jH b ah)
   exact ⟨by simp [bX,ah],ar,aO⟩
  have ab:Kept g w bX w' fun o=>o.out=.outer:=fun b ah=>M6 b ah
  have je:Rel P gl N bX { s with heap:=H' } a w':=by
   refine ⟨h.sorted,h.size,h.defers,fun t e he=>(h.env t e he).kept y1 ab rfl rfl (fun _=>rfl),fun id bt bh=>?_,gb.dY,fun b ah=>?_,fun n x ai=>gb.e4 n x ai,gb.er⟩
   ·have R:=gb.heap id bt bh
    have ga:Kept g' w' bX w' fun o=>(∃i,o=.bt i)∨∃i j,o=.oc i j:=fun b ah=>by
     have jd:(g.bd b).out≠.outer:=fun e=>by
      have:=(hle.outer b (jH b e)).1
      rcases ah with ⟨i,ah⟩ | ⟨i,j,ah⟩<;>rw [this] at ah<;>cases ah
     refine ⟨?_,rfl,fun _=>rfl⟩
     rcases ah with ⟨i,ah⟩ | ⟨i,j,ah⟩<;>simp [bX,jd,ah]
    exact R.kept la ga (fun i=>.inl ⟨i,rfl⟩) (fun i=>.inr ⟨id,i,rfl⟩)
   ·by_cases e:(g.bd b).out=.outer
    ·simp [bX,e] at ah
     have:=h.own b ah
     have:=hle.size;omega
    ·simp only [bX,e,if_false] at ah
     by_cases aI:g'.bd b=.var 0
     ·exact gb.own b (by rw [aI];simp)
     ·simp [aI] at ah;exact gb.own b ah
  refine ⟨s',bX,cW,⟨y1,fun b ah=>?_,hle.size,hle.os,hle.out⟩,?_⟩
  ·obtain ⟨an,ar,aO⟩:=M6 b (by rw [ah];rfl);exact ⟨an.trans ah,ar,aO⟩
  ·refine je.ef eD aw (fR.mono la) fun e sz xs ai=>?_
   obtain ⟨j,z,us,bK,cg,cS,eC,eK,iY,iG,hv,kD⟩:=y0 e sz xs ai
   refine ⟨j,z,us,bK,cg,cS,eC,eK,iY,iG,hv,fun b ah=>⟨?_,(kD b ah).2⟩⟩
   have q:=(kD b ah).1
   have jd:(g.bd b).out≠.outer:=fun e=>by have:=(hle.outer b (jH b e)).1;rw [this] at q;cases q
   simp [bX,jd,q]
 ·exact cW.elim
theorem Dq {d:Option Nat} {f:Nat} {xs:List AV} {vs:List Value} {K:ae→Prop} {Q:Exit→Act→World→Prop} (h:Rel P gl N g s a w) (aw:qq N o d=true)
  (aA:(execOp a.eval o).run P w=.ok (.enter f vs.toArray) w) (ax:bW g xs vs) (a1:∀x∈xs,cc x)
  (nm:ec P gl f xs s.heap fun r H'=>match ({ s with heap:=H' }:ae).ef d r with | some s'=>K s' | none=>False):o.wp P a w (nk P gl N g w K) Q :=
 M5 h aw aA (fun b=>(g.bd b).out) (fun _ _=>rfl) (fun b ah=>h.own b (M3 ah)) (bW.mono (g:=g) (g':=⟨g.γ,fun b=>(g.bd b).out,g.b4⟩) ⟨fun _ _ _ h=>h,fun _ _ h=>h⟩ ax) (fun _ x _ ai _=>(a1 x (List.mem_of_getElem? ai)).fo) nm
theorem Dr {us:List AV}:∀x∈us.map AV.aL,cc x:=m7
theorem M7 {d:Option Nat} {f:Nat} {xs:List aq} {K:ae→Prop} {Q:Exit→Act→World→Prop} (h:Rel P gl N g s a w)
  (af:hA P N o (.bF d f xs)=true) (bp:b0 P gl D s K (.bF d f xs)):o.wp P a w (nk P gl N g w K) Q:=by
 simp only [b0] at bp
 split at bp
 ·rename_i us he
  simp only [hA,Bool.and_eq_true] at af
  obtain ⟨⟨kG,lQ⟩,aD⟩:=af
  split at aD
  ·rename_i c aE
   split at aD
   ·rename_i eR gG
    simp only [Bool.and_eq_true,beq_iff_eq] at aD
    obtain ⟨rfl,gR⟩:=aD
    have k9:=(oV h gR he).aL
    have bM:(execOp a.eval o).run P w=.ok (.enter eR (c.args.toList.map a.eval).toArray) w:=by
     have e:(List.map a.eval c.args.toList).toArray=c.args.map a.eval:=by apply Array.ext';simp
     simp only [execOp,aE,resolve,gG,Act.eval,Deferred.ofValue,Sem.run_bind,Sem.run_pure,Result.andThen_ok,invoke]
     rw [v7 lQ]
     simp only [Result.ok.injEq,Next.enter.injEq,true_and,and_true]
     rw [←e];simp
    exact Dq h kG bM k9 Dr bp.1
   ·cases aD
  ·cases aD
 ·exact bp.elim
theorem aaW {d:Option Nat} {f:Nat} {xs:List aq} {K:ae→Prop} {Q:Exit→Act→World→Prop} (h:Rel P gl N g s a w)
  (af:hA P N o (.g1 d f xs)=true) (bp:b0 P gl D s K (.g1 d f xs)):o.wp P a w (nk P gl N g w K) Q:=by
 refine M7 (D:=D) (d:=d) (f:=f) (xs:=xs) h af ?_
 simp only [b0] at bp ⊢
 split at bp
 ·exact bp.mono fun r H bc=>bc.2
 ·exact bp
theorem aaX {d:Option Nat} {f u:Nat} {xs:List aq} {K:ae→Prop} {Q:Exit→Act→World→Prop} (h:Rel P gl N g s a w)
  (af:hA P N o (.hK d f u xs)=true) (bp:b0 P gl D s K (.hK d f u xs)):o.wp P a w (nk P gl N g w K) Q:=by
 simp only [hA,Bool.and_eq_true] at af
 obtain ⟨⟨kG,lQ⟩,aD⟩:=af
 split at aD
 ·rename_i c aE
  split at aD
  ·rename_i eR gG
   simp only [Bool.and_eq_true,beq_iff_eq] at aD
   obtain ⟨rfl,gR⟩:=aD
   have bM:(execOp a.eval o).run P w=.ok (.enter eR (c.args.toList.map a.eval).toArray) w:=by
    have e:(List.map a.eval c.args.toList).toArray=c.args.map a.eval:=by apply Array.ext';simp
    simp only [execOp,aE,resolve,gG,Act.eval,Deferred.ofValue,Sem.run_bind,Sem.run_pure,Result.andThen_ok,invoke]
    rw [v7 lQ]
    simp only [Result.ok.injEq,Next.enter.injEq,true_and,and_true]
    rw [←e];simp
   generalize c.args.toList=ys at gR bM
   cases ys with
   | nil=>simp [gQ] at gR
   | cons y ys =>
    simp only [gQ,List.length_cons,List.zip_cons_cons,List.all_cons,Bool.and_eq_true,beq_iff_eq] at gR
    obtain ⟨aN,aT,rL⟩:=gR
    have iW:y=.tmp u:=by
     unfold cA at aT;split at aT<;>simp_all
    subst iW
    have M8:gQ ys xs=true:=by simp only [gQ,Bool.and_eq_true,beq_iff_eq];exact ⟨by omega,rL⟩
    simp only [b0] at bp
    split at bp
    ·rename_i e sz k5 us hu he
     obtain ⟨v,aG,aJ,bo⟩:=h.env _ _ hu
     have cD:a.eval (.tmp u)=v:=by simp [Act.eval,aG]
     have k9:=(oV h M8 he).aL
     obtain ⟨al,aY⟩:=h.strip hu
     rw [List.map_cons,cD] at bM
     -- the block that is handed over is nobody's for a while
     let mx:a5:=⟨g.γ,fun b=>if v.ownBlock=some b then .none else g.bd b,g.b4⟩
     have y2:∀b,v.ownBlock=some b→g.bd b=.var u∧b<w.heap.size:=fun b ah=>by
      obtain ⟨i,z,vs,bK,cg,cS,eC,eK,iY,vA,iG,hv⟩:=bo e sz k5 rfl
      exact ⟨(hv b ah).1,(iG.lt b ah).2⟩
     have M9:dj g w mx w:=⟨⟨fun _ _ _ h=>h,fun _ _ h=>h⟩,fun b ah=>⟨by
      have:v.ownBlock≠some b:=fun e=>by rw [(y2 b e).1] at ah;cases ah
      simp [mx,this,ah],rfl,fun _=>rfl⟩,Nat.le_refl _,rfl,rfl⟩
     have v9:Rel P gl N mx { s with env:=s.env.ins u (.v (.list none sz k5)) } a w:=by
      refine aY.step (.var u) (yC _ _ _ _) M9.toGhLe (fun b ah=>⟨?_,rfl,fun _=>rfl⟩) aY.dY (fun b ah=>?_) aY.er
      ·have:v.ownBlock≠some b:=fun e=>ah.2 (y2 b e).1
       simp [mx,this]
      ·by_cases e:v.ownBlock=some b
       ·exact (y2 b e).2
       ·simp [mx,e] at ah;exact h.own b ah
     let bd:Nat→dh:=fun b=>if v.ownBlock=some b then .var 0 else (g.bd b).out
     have rK:o.wp P a w (nk P gl N mx w K) Q:=by
      refine M5 v9 kG bM bd (fun b ah=>?_) (fun b ah=>?_) ?_ ?_ bp.1
      ·by_cases e:v.ownBlock=some b
       ·simp [mx,e] at ah
       ·simp [bd,mx,e]
      ·by_cases e:v.ownBlock=some b
       ·exact (y2 b e).2
       ·simp only [bd,e,if_false] at ah;exact h.own b (M3 ah)
      ·exact .cons _ _ _ _ (aU.mono (g:=g) (g':=⟨mx.γ,bd,mx.b4⟩) ⟨fun _ _ _ h=>h,fun _ _ h=>h⟩ aJ) (bW.mono (g:=g) (g':=⟨mx.γ,bd,mx.b4⟩) ⟨fun _ _ _ h=>h,fun _ _ h=>h⟩ k9)
      ·intro i x bP ai cF
       cases i with
       | zero =>
        simp at ai cF;subst ai cF
        intro bH b8 aaY bx
        obtain ⟨i,z,vs,bK,cg,cS,eC,eK,iY,vA,iG,hv⟩:=bo bH b8 aaY bx
        exact ⟨i,z,vs,bK,cg,cS,eC,eK,iY,vA,iG,fun b ah=>⟨by simp [bd,ah],(hv b ah).2⟩⟩
       | succ i =>
        simp only [List.getElem?_cons_succ] at ai
        exact (m7 x (List.mem_of_getElem? ai)).fo
     exact Oper.wp_mono (fun bO w' ⟨s',g',an,ar,aO⟩=>⟨s',g',an,M9.trans ar,aO⟩) rK
    ·rename_i x us jd hu he
     obtain ⟨v,aG,aJ,bo⟩:=h.env _ _ hu
     have cD:a.eval (.tmp u)=v:=by simp [Act.eval,aG]
     have k9:=(oV h M8 he).aL
     rw [List.map_cons,cD] at bM
     exact Dq h kG bM (.cons _ _ _ _ aJ.aL k9) (fun y aT=>by
      rcases List.mem_cons.1 aT with rfl | aT
      ·exact cc.aL _
      ·exact m7 y aT) bp.1
    ·exact bp.elim
  ·cases aD
 ·cases aD
theorem aU.aaZ {f:Nat} {cs:List AV} {v:Value} (h:aU g (.fn f cs) v):∃ws,v=.func (.func f) #[] ws.toArray∧bW g cs ws:=by
 cases h with
 | pure _ _ h=>cases h
 | fn _ _ ws h=>exact ⟨ws,rfl,h⟩
theorem aa0 {d:Option Nat} {x:aq} {xs:List aq} {K:ae→Prop} {Q:Exit→Act→World→Prop} (h:Rel P gl N g s a w)
  (af:hA P N o (.eU d x xs)=true) (bp:b0 P gl D s K (.eU d x xs)):o.wp P a w (nk P gl N g w K) Q:=by
 simp only [b0] at bp
 split at bp
 ·rename_i f eu us ai he
  simp only [hA,Bool.and_eq_true] at af
  obtain ⟨kG,aD⟩:=af
  split at aD
  ·rename_i c aE
   split at aD
   ·rename_i y gG
    simp only [Bool.and_eq_true] at aD
    obtain ⟨aT,gR⟩:=aD
    have k9:=(oV h gR he).aL
    obtain ⟨ws,ax,kF⟩:=(ca h aT ai).aaZ
    have bM:(execOp a.eval o).run P w=.ok (.enter f (c.args.toList.map a.eval++ws).toArray) w:=by
     have e:(List.map a.eval c.args.toList).toArray=c.args.map a.eval:=by apply Array.ext';simp
     simp only [execOp,aE,resolve,gG,ax,Deferred.ofValue,Sem.run_bind,Sem.run_pure,Result.andThen_ok,invoke]
     rw [v7 bp.1.1]
     simp only [Result.ok.injEq,Next.enter.injEq,true_and,and_true]
     rw [←e];simp
    refine Dq h kG bM (k9.append kF.aL) (fun x ai=>?_) bp.1
    rcases List.mem_append.1 ai with ai | ai
    ·exact Dr x ai
    ·exact Dr x ai
   ·cases aD
  ·cases aD
 ·exact bp.elim
end
end AM
/-! The abstract machine's code is the model's: regions in a given order, branches, loops. -/
namespace AM
open Go
section
variable {P:Program} {gl:aR} {D:cv} {N:Nat} {g g':a5} {s s':ae} {a:Act} {w w':World} {o:Oper}
theorem aa1 {iu:bR} {K:ae→Prop} {Q:Exit→Act→World→Prop} (h:Rel P gl N g s a w) (af:hA P N o iu=true) (bp:b0 P gl D s K iu):o.wp P a w (nk P gl N g w K) Q:=by
 have nn:∀rJ,rJ=iu→(match au gl s rJ with | some s'=>K s' | none=>False)→o.wp P a w (nk P gl N g w K) Q:=by
  rintro _ rfl bp
  split at bp
  ·rename_i s' he
   exact (pn h af he).wp bp
  ·exact bp.elim
 cases iu<;>first
  | exact nn _ rfl bp
  | skip
 case aQ d f xs =>
  simp only [b0] at bp
  split at bp
  ·rename_i us he
   obtain ⟨R,aa⟩:=bp
   split at aa
   ·rename_i r aA
    obtain ⟨aa,al⟩:=aa
    split at al
    ·rename_i s' ao
     exact aaU h af he R aa ao al
    ·exact al.elim
   ·exact aa.elim
  ·exact bp.elim
 case bF d f xs=>exact M7 h af bp
 case eU d x xs=>exact aa0 h af bp
 case g1 d f xs=>exact aaW h af bp
 case hK d f u xs=>exact aaX h af bp
 case hs d it =>
  simp only [b0] at bp
  simp only [hA,yL,Bool.and_eq_true] at af
  obtain ⟨aw,aD⟩:=af
  split at aD
  ·rename_i mr aE
   have dZ:=aw
   simp only [b2,Bool.and_eq_true,beq_iff_eq,decide_eq_true_eq] at dZ
   split at bp
   ·rename_i id m since seen es g6
    obtain ⟨x,ai,g6⟩:=bind_some g6
    rcases MH h aE aD ai g6 with ⟨rfl,aA⟩ | ⟨e,he,w',v,aA,hle,ax,gb,_⟩
    ·simp only at bp
     split at bp
     ·rename_i s' eD
      unfold Oper.wp
      rw [aA]
      refine ⟨s',g,bp,.refl _ _,?_⟩
      rw [dZ.1]
      exact h.put eD dZ.2 (.bw _ [.bool false] (.cons _ _ _ _ (.pure _ _ (.bool _)) .nil)) (.jX fun _ _ _ h=>by simp at h)
     ·exact bp.elim
    ·cases es with
     | nil=>simp at he
     | cons bB es =>
      simp only at bp
      have:=bp e he
      split at this
      ·rename_i s' eD
       unfold Oper.wp
       rw [aA]
       refine ⟨s',g,this,hle,?_⟩
       rw [dZ.1]
       exact gb.put eD dZ.2 ax (.jX fun _ _ _ h=>by simp at h)
      ·exact this.elim
   ·exact bp.elim
  ·cases aD
def wa (P:Program) (N:Nat) (ops:Array Oper) (o:Oper) (it:ev):Bool:=yY ops o it&&yZ N o it.o&&hA P N o it.o
theorem Na (h:Rel P gl N g s a w) {ops:Array Oper} {it:ev} {b:Bool} (af:yY ops o it=true) (aK:h3 s.env it.g=some b) :
  Region.wanted o (yielded ops a.tmps)=b:=by
 unfold yY at af
 split at af
 ·rename_i R aa
  rw [aa] at aK
  simp [h3] at aK
  simp [Region.wanted,R,aK]
 ·rename_i j want t M0 R aa
  simp only [Bool.and_eq_true,beq_iff_eq] at af
  obtain ⟨rfl,a6⟩:=af
  rw [aa] at aK
  simp only [h3] at aK
  split at aK
  ·rename_i bE ah
   simp at aK
   obtain ⟨v,pk,rM,_⟩:=h.env _ _ ah
   have:v=.bool bE:=by
    cases rM with
    | pure _ _ ao=>cases ao;rfl
   subst this
   simp only [Region.wanted,R,yielded,a6,Option.bind_some,pk]
   rw [←aK]
   cases bE<;>cases want<;>rfl
  ·rename_i ah
   simp at aK
   obtain ⟨v,pk,rM,_⟩:=h.env _ _ ah
   have:v=.tuple #[]:=by
    cases rM with
    | pure _ _ ao=>cases ao
    | bw _ ws kF=>cases kF;rfl
   subst this
   simp only [Region.wanted,R,yielded,a6,Option.bind_some,pk]
   subst aK;cases want<;>rfl
  ·cases aK
 ·cases af
theorem Nb {ops:Array Oper} {b6:List ev} {K:ae→Prop} {Q:Exit→Act→World→Prop} {np:a5} {w0:World}
  (qs:∀s' g' bO w',K s'→dj np w0 g' w'→Rel P gl N g' s' bO w'→Q .normal bO w') :
  ∀(l:List Nat),(∀i∈l,∃o it,ops[i]?=some o∧b6[i]?=some it∧wa P N ops o it=true) →
   ∀s g a w,Rel P gl N g s a w→dj np w0 g w→gI P gl D (l.filterMap (b6[·]?)) s K→wpOps P ops Q l a w:=by
 intro l
 induction l with
 | nil=>intro _ s g a w h hle aA;exact qs s g a w aA hle h
 | cons i rest ih =>
  intro aN s g a w h hle aA
  obtain ⟨o,it,aE,kE,af⟩:=aN i (by simp)
  simp only [wa,Bool.and_eq_true] at af
  obtain ⟨⟨Nc,wb⟩,aa2⟩:=af
  have Ds:=ih fun i av=>aN i (by simp [av])
  simp only [List.filterMap_cons,kE,gI] at aA
  simp only [wpOps,aE]
  split at aA
  ·rename_i s0
   rw [Na h Nc s0]
   simp only [if_true]
   refine .inl (Oper.wp_mono ?_ (aa1 h aa2 aA))
   rintro de b3 ⟨s1,bX,ab,y1,R⟩
   exact Ds s1 bX de b3 R (hle.trans y1) ab
  ·rename_i s0
   rw [Na h Nc s0]
   simp only [Bool.false_eq_true,if_false]
   split at aA
   ·rename_i d aw
    simp only [yZ,aw,Bool.and_eq_true,beq_iff_eq,decide_eq_true_eq] at wb
    rw [wb.1]
    split at aA
    ·rename_i s1 fK
     exact Ds s1 g _ w (h.put fK wb.2 (.bw _ _ .nil) (.jX fun _ _ _ h=>by simp at h)) hle aA
    ·exact aA.elim
   ·rename_i aw
    simp only [yZ,aw,beq_iff_eq] at wb
    rw [wb]
    exact Ds s g a w h hle aA
  ·exact aA.elim
theorem Rel.drawn (h:Rel P gl N g s a w):Rel P gl N g s a { w with drawn:=w.drawn+1 } :=
 h.later (K:=fun _=>True) (g':=g) (w':={ w with drawn:=w.drawn+1 }) ⟨fun _ _ _ h=>h,fun _ _ h=>h⟩ (fun _ _=>⟨rfl,rfl,fun _=>rfl⟩) (fun _ _=>trivial) (fun b off v ax=>h.dY b off v ax) (fun b ah=>h.own b ah) h.er
theorem Nd {ops:Array Oper}:∀{os:List Oper} {b6:List ev},tw P N ops os b6=true→os.length=b6.length∧∀(i:Nat) o it,os[i]?=some o→b6[i]?=some it→wa P N ops o it=true
 | [],[],_=>⟨rfl,by simp⟩
 | [],_::_,h=>by simp [tw] at h
 | _::_,[],h=>by simp [tw] at h
 | o::os,it::b6,h=>by
  simp only [tw,Bool.and_eq_true] at h
  obtain ⟨R,aa⟩:=Nd h.2
  refine ⟨by simp [R],fun i bZ mr aE av=>?_⟩
  cases i with
  | zero=>simp at aE av;subst aE av;simp only [wa,Bool.and_eq_true];exact h.1
  | succ i=>exact aa i bZ mr (by simpa using aE) (by simpa using av)
theorem Nf (L:List ev):∀(b6 pre:List ev),L=pre++b6→(List.range' pre.length b6.length).filterMap (L[·]?)=b6
 | [],pre,_=>rfl
 | it::b6,pre,h=>by
  have R:L[pre.length]?=some it:=by simp [h]
  have aa:=Nf L b6 (pre++[it]) (by simp [h])
  simp only [List.length_append,List.length_cons,List.length_nil,Nat.zero_add] at aa
  simp only [List.length_cons,List.range'_succ,List.filterMap_cons,R,aa]
theorem aa3 (b6:List ev):(List.range b6.length).filterMap (b6[·]?)=b6:=by
 have:=Nf b6 b6 [] rfl
 rw [List.range_eq_range']
 exact this
end
end AM
/-! The abstract machine's operations are monotone. -/
namespace AM
open Go
section
variable {P:Program} {gl:aR} {D:cv} {s:ae}
theorem tx {iu:bR} {K K':ae→Prop} (h:b0 P gl D s K iu) (ab:∀s,K s→K' s):b0 P gl D s K' iu:=by
 have nn:∀rJ,rJ=iu→(match au gl s rJ with | some s'=>K s' | none=>False)→(match au gl s rJ with | some s'=>K' s' | none=>False):=by
  rintro _ rfl h
  split at h
  ·exact ab _ h
  ·exact h.elim
 cases iu<;>first
  | exact nn _ rfl h
  | skip
 case aQ d f xs =>
  simp only [b0] at h ⊢
  split at h
  ·refine ⟨h.1,?_⟩
   have h:=h.2
   split at h
   ·refine ⟨h.1,?_⟩
    have h:=h.2
    split at h
    ·exact ab _ h
    ·exact h.elim
   ·exact h.elim
  ·exact h.elim
 case bF d f xs =>
  simp only [b0] at h ⊢
  split at h
  ·refine h.mono fun r H bc=>?_
   split at bc
   ·exact ab _ bc
   ·exact bc.elim
  ·exact h.elim
 case eU d x xs =>
  simp only [b0] at h ⊢
  split at h
  ·refine h.mono fun r H bc=>?_
   split at bc
   ·exact ab _ bc
   ·exact bc.elim
  ·exact h.elim
 case g1 d f xs =>
  simp only [b0] at h ⊢
  split at h
  ·refine h.mono fun r H bc=>⟨bc.1,?_⟩
   have bc:=bc.2
   split at bc
   ·exact ab _ bc
   ·exact bc.elim
  ·exact h.elim
 case hK d f u xs =>
  simp only [b0] at h ⊢
  split at h
  ·refine h.mono fun r H bc=>?_
   split at bc
   ·exact ab _ bc
   ·exact bc.elim
  ·refine h.mono fun r H bc=>?_
   split at bc
   ·exact ab _ bc
   ·exact bc.elim
  ·exact h.elim
 case hs d it =>
  simp only [b0] at h ⊢
  split at h
  ·split at h
   ·split at h
    ·exact ab _ h
    ·exact h.elim
   ·intro e he
    have:=h e he
    split at this
    ·exact ab _ this
    ·exact this.elim
  ·exact h.elim
theorem rN {K K':ae→Prop} (ab:∀s,K s→K' s):∀{b6:List ev} {s:ae},gI P gl D b6 s K→gI P gl D b6 s K'
 | [],_,h=>ab _ h
 | it::b6,s,h=>by
  simp only [gI] at h ⊢
  split at h
  ·exact tx h fun s h=>rN ab h
  ·split at h
   ·split at h
    ·exact rN ab h
    ·exact h.elim
   ·exact rN ab h
  ·exact h.elim
end
end AM
/-! What an operation over temporaries does not look at. -/
namespace AM
open Go
def bY:aq→List Nat
 | .t n=>[n]
 | _=>[]
def kH:List aq→List Nat
 | []=>[]
 | x::r=>bY x++kH r
def tz:Option aq→List Nat
 | none=>[]
 | some x=>bY x
def rO:List (Nat×Nat×aq)→List Nat
 | []=>[]
 | (_,_,x)::r=>bY x++rO r
def cl:bR→List Nat
 | .I _ x=>bY x
 | .kV _ _ _ x y=>bY x++bY y
 | .cB _ x=>bY x
 | .neg _ x=>bY x
 | .conv _ _ x=>bY x
 | .len _ _ x=>bY x
 | .box _ x=>bY x
 | .iR _ x=>bY x
 | .cz _ x=>bY x
 | .aC _ x _=>bY x
 | .ak _ x _ _=>bY x
 | .gO _ x _ _=>bY x
 | .bV _ x=>bY x
 | .lz _ x _ _=>bY x
 | .kX _ x=>bY x
 | .hs _ x=>bY x
 | .iU _ x=>bY x
 | .jT _ _ _ x=>bY x
 | .jU _ _ x=>bY x
 | .nT _ x _=>bY x
 | .mT _ x=>bY x
 | .mV _ _ x=>bY x
 | .mh _ x _ _=>bY x
 | .mR _ _ _=>[]
 | .bg _ x=>[x]
 | .hr _ _ _=>[]
 | .alloc _ _=>[]
 | .g0 _ _=>[]
 | .jx _=>[]
 | .bad _=>[]
 | .pick _ c x y=>bY c++(bY x++bY y)
 | .bin _ _ _ x y=>bY x++bY y
 | .bm _ _ x y=>bY x++bY y
 | .jR _ x _ _ y=>bY x++bY y
 | .st _ x y=>bY x++bY y
 | .idx _ x y=>bY x++bY y
 | .jS _ _ x y=>bY x++bY y
 | .look _ _ x y _ _=>bY x++bY y
 | .fX _ _ x y _=>bY x++bY y
 | .kW _ _ x y=>bY x++bY y
 | .mU _ _ x y=>bY x++bY y
 | .lB _ _ x y=>bY x++bY y
 | .mW _ _ x=>bY x
 | .iC _ _ x y=>bY x++bY y
 | .ext _ x _=>[x]
 | .build _ _ bT=>rO bT
 | .lit _ _ xs=>kH xs
 | .mi _ _ _ xs=>kH xs
 | .kr _ _ _ xs=>kH xs
 | .iS _ _ xs=>kH xs
 | .aQ _ _ xs=>kH xs
 | .bF _ _ xs=>kH xs
 | .g1 _ _ xs=>kH xs
 | .fW x v=>v::bY x
 | .hU _ _ x aX av=>bY x++(tz aX++tz av)
 | .jw _ x _ _ aX av=>bY x++(tz aX++tz av)
 | .app _ u x _ _=>u::bY x
 | .mj _ u x _ _=>u::bY x
 | .mS _ u x _ _=>u::bY x
 | .jy _ _ _ _ u x=>bY u++bY x
 | .iT _ m k v=>bY m++(bY k++bY v)
 | .lA _ m k v=>v::(bY m++bY k)
 | .hK _ _ u xs=>u::kH xs
 | .eU _ x xs=>bY x++kH xs
 | .on _ o=>cl o
def my:bR→List Nat
 | .bg _ x=>[x]
 | .fW _ v=>[v]
 | .app _ u _ _ _=>[u]
 | .lA _ _ _ v=>[v]
 | .hK _ _ u _=>[u]
 | .on _ o=>my o
 | _=>[]
def cE (o:bR):List Nat:=(match fT o with | some d=>[d] | none=>[])++my o
namespace Env
theorem y3 (e:Env) {t u:Nat} (x y:bU) (h:t≠u):(e.ins t x).ins u y=(e.ins u y).ins t x:=by
 induction e with
 | nil =>
  simp only [ins]
  by_cases R:u<t
  ·simp [R,show ¬t<u by omega,show ¬t=u by omega]
  ·simp [R,show t<u by omega,show ¬u=t by omega]
 | cons p r ih =>
  obtain ⟨k,z⟩:=p
  simp only [ins]
  rcases Nat.lt_trichotomy t k with R | R | R
  ·rcases Nat.lt_trichotomy u k with aa | aa | aa
   ·simp only [R,aa,if_true,ins]
    by_cases al:u<t
    ·simp [al,show ¬t<u by omega,show ¬t=u by omega]
    ·simp [al,show t<u by omega,show ¬u=t by omega]
   ·subst aa
    simp only [R,if_true,Nat.lt_irrefl,if_false,ins]
    simp [show ¬u<t by omega,show ¬u=t by omega]
   ·simp only [R,if_true,show ¬u<k by omega,show ¬u=k by omega,if_false,ins]
    simp [show ¬u<t by omega,show ¬u=t by omega]
  ·subst R
   rcases Nat.lt_trichotomy u t with aa | aa | aa
   ·simp only [aa,if_true,Nat.lt_irrefl,if_false,ins]
    simp [show ¬t<u by omega,show ¬t=u by omega]
   ·exact absurd aa.symm h
   ·simp only [show ¬u<t by omega,show ¬u=t by omega,Nat.lt_irrefl,if_true,if_false,ins]
  ·rcases Nat.lt_trichotomy u k with aa | aa | aa
   ·simp only [aa,if_true,show ¬t<k by omega,show ¬t=k by omega,if_false,ins]
    simp [show ¬t<u by omega,show ¬t=u by omega]
   ·subst aa
    simp only [show ¬t<u by omega,show ¬t=u by omega,Nat.lt_irrefl,if_true,if_false,ins]
   ·simp only [show ¬t<k by omega,show ¬t=k by omega,show ¬u<k by omega,show ¬u=k by omega,if_false,ins,ih]
end Env
section
variable {gl:aR} {env:Env} {d:Nat} {x:bU}
theorem lb {t:Nat} (h:t≠d):(env.ins d x).get t=env.get t:=by rw [Env.fm,if_neg h]
theorem od {y:aq} (h:d∉bY y):bl gl (env.ins d x) y=bl gl env y:=by
 cases y<;>simp only [bl]
 rename_i n
 rw [lb (by rintro rfl;simp [bY] at h)]
theorem y4:∀{ys:List aq},d∉kH ys→dQ gl (env.ins d x) ys=dQ gl env ys
 | [],_=>rfl
 | y::ys,h=>by
  simp only [kH,List.mem_append,not_or] at h
  simp only [dQ,od h.1,y4 h.2]
theorem aa4 {n:Nat} {y:Option aq} (h:d∉tz y):hd gl (env.ins d x) n y=hd gl env n y:=by
 cases y with
 | none=>rfl
 | some y=>simp only [hd,od (y:=y) h]
theorem Ng:∀{bT:List (Nat×Nat×aq)} {z:List AV},d∉rO bT→jA gl (env.ins d x) z bT=jA gl env z bT
 | [],_,_=>rfl
 | (a,b,y)::bT,z,h=>by
  simp only [rO,List.mem_append,not_or] at h
  simp only [jA,od h.1,Ng h.2]
theorem qt {y:aq} (h:d∉bY y):dn gl (env.ins d x) y=dn gl env y:=by
 cases y<;>simp only [dn]
 rename_i n
 rw [lb (by rintro rfl;simp [bY] at h)]
theorem po {y:aq} (h:d∉bY y):eg (env.ins d x) y=eg env y:=by
 cases y<;>simp only [eg]
 rename_i n
 rw [lb (by rintro rfl;simp [bY] at h)]
theorem oe {t:Nat} (h:t≠d):c9 (env.ins d x) t=c9 env t:=by simp only [c9,lb h]
def hB (d:Nat) (x:bU) (H:List aM) (s:ae):ae:=⟨s.env.ins d x,H⟩
theorem hR {H H':List aM} {t:Nat} {y:AV} (h:t≠d):(⟨env.ins d x,H'⟩:ae).put t y=((⟨env,H⟩:ae).put t y).map (hB d x H'):=by
 simp only [ae.put,oe h]
 split
 ·simp only [Option.map_some,hB];rw [Env.y3 _ _ _ (Ne.symm h)]
 ·rfl
theorem aa5 {H H':List aM} {t:Option Nat} {y:AV} (h:∀u,t=some u→u≠d):(⟨env.ins d x,H'⟩:ae).ef t y=((⟨env,H⟩:ae).ef t y).map (hB d x H'):=by
 cases t with
 | none=>rfl
 | some t=>exact hR (h t rfl)
theorem wc {H H':List aM} {t:Nat} {y:bU} (h:t≠d):(some ⟨(env.ins d x).ins t y,H'⟩:Option ae)=(some (⟨env.ins t y,H⟩:ae)).map (hB d x H'):=by
 simp only [Option.map_some,hB];rw [Env.y3 _ _ _ (Ne.symm h)]
theorem og {α:Type} {o:Option α} {f:α→Option ae} {eR:α→Option ae} {H':List aM} (h:∀a,eR a=(f a).map (hB d x H')):o.bind eR=(o.bind f).map (hB d x H'):=by
 cases o with
 | none=>rfl
 | some a=>exact h a
end
end AM
/-! Operations over temporaries: they look at few of them. -/
namespace AM
open Go
def ba:bR→Nat
 | .I _ _ | .bg _ _ | .hr _ _ _ | .pick _ _ _ _ | .bin _ _ _ _ _ | .kV _ _ _ _ _ | .cB _ _ | .neg _ _ | .conv _ _ _ | .ext _ _ _ | .cz _ _ | .build _ _ _ | .lit _ _ _ | .mi _ _ _ _
 | .bm _ _ _ _ | .idx _ _ _ | .hU _ _ _ _ _ | .jw _ _ _ _ _ _ | .app _ _ _ _ _ | .mj _ _ _ _ _ | .iS _ _ _ | .lz _ _ _ _ | .jS _ _ _ _ | .jU _ _ _ | .nT _ _ _ | .mT _ _
 | .mV _ _ _ | .lB _ _ _ _ | .aQ _ _ _=>0
 | .aC _ _ _ | .jR _ _ _ _ _ | .bV _ _=>1
 | .len _ m _=>if m=2 then 5 else 0
 | .alloc _ _ | .box _ _=>2
 | .look _ _ _ _ _ _ | .iU _ _=>5
 | .g1 _ _ _=>6
 | .on m (.ak _ _ _ _)=>if m=3 then 0 else if m=4 then 5 else if m=1∨m=2 then 7 else 9
 | .on m (.aC _ _ _) | .on m (.bV _ _)=>if m=3∨m=4 then 0 else 9
 | .on m (.gO _ _ _ _) | .on m (.st _ _ _) | .on m (.fW _ _)=>if m=4 then 4 else if m=1∨m=2 then 3 else 9
 | .fX _ _ _ _ _ | .iT _ _ _ _ | .lA _ _ _ _ | .kW _ _ _ _ | .jx _ | .kX _ _ | .hs _ _ | .kr _ _ _ _ | .jT _ _ _ _ | .mR _ _ _ | .mh _ _ _ _ | .g0 _ _ | .iR _ _ | .jy _ _ _ _ _ _ | .mS _ _ _ _ _ | .mU _ _ _ _ | .iC _ _ _ _
 | .bF _ _ _ | .hK _ _ _ _ | .eU _ _ _=>4
 | _=>9
def bU.dA:bU→Bool
 | .b _=>true
 | _=>false
def bU.eJ:bU→Bool
 | .a _ _=>true
 | _=>false
section
variable {gl:aR} {env:Env} {d:Nat} {x:bU} {H H':List aM}
theorem we {t:Nat} {l:List Nat} (h:d∉l) (aF:t∈l):t≠d:=fun e=>h (e▸aF)
theorem j6 {o:bR} (hw:d∉cE o) {t:Nat} (aF:fT o=some t):t≠d:=fun e=>hw (by simp [cE,aF,e])
theorem Nh {s:ae} {t:Nat} {y:AV} (h:t≠d):(hB d x H' s).put t y=(s.put t y).map (hB d x H'):=hR (H:=s.heap) h
theorem Ni {t u:Nat} {y z:AV} (R:t≠d) (aa:u≠d):((⟨env.ins d x,H'⟩:ae).put t y).bind (fun s=>s.put u z)=(((⟨env,H⟩:ae).put t y).bind fun s=>s.put u z).map (hB d x H'):=by
 rw [hR (H:=H) R]
 cases (⟨env,H⟩:ae).put t y with
 | none=>rfl
 | some s=>exact Nh aa
theorem aa6 {o:bR} (ab:ba o=0∨ba o=1) (j7:∀m bZ,o≠.on m bZ) (aA:d∉cl o) (hw:d∉cE o):au gl ⟨env.ins d x,H'⟩ o=(au gl ⟨env,H⟩ o).map (hB d x H'):=by
 cases o<;>simp only [ba,reduceCtorEq,or_self,Nat.reduceEqDiff] at ab
 case on m bZ=>exact absurd rfl (j7 m bZ)
 case aQ=>rfl
 case bg d2 y =>
  have R:y≠d:=we aA (by simp [cl])
  have aa:d2≠d:=j6 hw rfl
  simp only [au,lb R]
  split
  ·split
   ·rfl
   ·exact Ni R aa
  ·exact hR aa
  ·rfl
 case ext d2 y i =>
  have R:y≠d:=we aA (by simp [cl])
  simp only [au,lb R]
  split
  ·exact og fun v=>hR (j6 hw rfl)
  ·rfl
 case app d2 u y e sz =>
  have R:u≠d:=we aA (by simp [cl])
  have aa:d2≠d:=j6 hw rfl
  have al:d∉bY y:=fun h=>aA (by simp [cl,h])
  simp only [au,lb R,od al]
  split
  ·split
   ·exact Ni R aa
   ·rfl
  ·split
   ·exact hR aa
   ·rfl
  ·rfl
 case mj d2 u y e sz =>
  have R:u≠d:=we aA (by simp [cl])
  have aa:d2≠d:=j6 hw rfl
  have al:d∉bY y:=fun h=>aA (by simp [cl,h])
  simp only [au,lb R,od al]
  split
  ·split
   ·split
    ·exact hR aa
    ·exact hR aa
   ·rfl
  ·rfl
 case aC d2 y off =>
  have aa:d2≠d:=j6 hw rfl
  simp only [cl] at aA
  simp only [au,qt aA,oe aa]
  split
  ·split
   ·exact wc aa
   ·rfl
  ·exact hR aa
  ·split
   ·exact hR aa
   ·rfl
  ·rfl
 case jR d2 y n sz i =>
  have aa:d2≠d:=j6 hw rfl
  simp only [cl,List.mem_append,not_or] at aA
  simp only [au,qt aA.1,od aA.2,oe aa]
  split
  ·split
   ·exact wc aa
   ·rfl
  ·split
   ·exact hR aa
   ·rfl
  ·split
   ·exact hR aa
   ·rfl
  ·rfl
 case bV d2 y =>
  have aa:d2≠d:=j6 hw rfl
  simp only [cl] at aA
  cases y with
  | t n =>
   have R:n≠d:=we aA (by simp [bY])
   simp only [au,lb R,oe aa]
   split
   ·split
    ·exact wc aa
    ·rfl
   ·split
    ·exact wc aa
    ·rfl
   ·exact hR aa
   ·exact hR aa
   ·rfl
  | _=>rfl
 case len d2 m y =>
  have hm:m≠2:=by rintro rfl;simp at ab
  have aa:d2≠d:=j6 hw rfl
  simp only [cl] at aA
  simp only [au,od aA,hm,if_false]
  repeat' (first | exact hR aa | rfl | split)
 all_goals
  have aa:=fun t aF=>j6 (t:=t) hw aF
  simp only [fT,Option.some.injEq,forall_eq'] at aa
  simp only [cl] at aA
  simp (disch:=(refine mt (fun a0=>?_) aA;simp [a0])) only [au,od,y4,aa4,Ng,qt]
  repeat' (first | exact hR aa | rfl | (refine og fun _=>?_) | split)
theorem Nj {y:aq} (h:eg env y=3):dn gl env y=none∨∃cs,dn gl env y=some (.fl cs):=by
 cases y with
 | t n =>
  simp only [eg] at h
  simp only [dn]
  split at h<;>simp_all
 | g n =>
  simp only [dn]
  split
  ·exact .inr ⟨_,rfl⟩
  ·exact .inl rfl
 | _=>simp [eg] at h
theorem qu {y:aq} (h:eg env y=1∨eg env y=2):∃t off,dn gl env y=some (.cV t off):=by
 cases y with
 | t n =>
  simp only [eg] at h
  simp only [dn]
  split at h<;>simp_all
 | _=>simp [eg] at h
theorem Nk {y:aq} (h:eg env y=4):∃id off,dn gl env y=some (.ao id off):=by
 cases y with
 | t n =>
  simp only [eg] at h
  simp only [dn]
  split at h<;>simp_all
 | _=>simp [eg] at h
theorem Nl {n t off:Nat} (ai:x.dA=false) (aE:∀cs,env.get d≠some (.b cs)):aV ⟨env.ins d x,H'⟩ n (.cV t off)=aV ⟨env,H⟩ n (.cV t off):=by
 simp only [aV,Env.fm]
 by_cases h:t=d
 ·subst h
  simp only [if_true]
  cases x with
  | b cs=>simp [bU.dA] at ai
  | _ =>
   cases he:env.get t with
   | none=>rfl
   | some e=>cases e with
    | b cs=>exact absurd he (aE cs)
    | _=>rfl
 ·simp only [h,if_false]
theorem Dt {t off:Nat} {vs:List AV} (ai:x.dA=false) (aE:∀cs,env.get d≠some (.b cs)):aW ⟨env.ins d x,H'⟩ vs (.cV t off)=(aW ⟨env,H⟩ vs (.cV t off)).map (hB d x H'):=by
 simp only [aW,Env.fm]
 by_cases h:t=d
 ·subst h
  simp only [if_true]
  cases x with
  | b cs=>simp [bU.dA] at ai
  | _ =>
   cases he:env.get t with
   | none=>rfl
   | some e=>cases e with
    | b cs=>exact absurd he (aE cs)
    | _=>rfl
 ·simp only [h,if_false]
  split
  ·split
   ·simp only [Option.map_some,hB];rw [Env.y3 _ _ _ (Ne.symm h)]
   ·rfl
  ·rfl
theorem aa7 {s:ae} {t off:Nat} {vs:List AV} (ai:x.dA=false) (aE:∀cs,s.env.get d≠some (.b cs)):aW (hB d x H' s) vs (.cV t off)=(aW s vs (.cV t off)).map (hB d x H') :=
 Dt (H:=s.heap) ai aE
theorem h4 {s:ae} {m:Nat} {o:bR} (h:eg s.env (ej o)=m):au gl s (.on m o)=au gl s o:=by simp only [au,h,if_true]
theorem h5 {s:ae} {m:Nat} {o:bR} (h:¬eg s.env (ej o)=m):au gl s (.on m o)=none:=by simp only [au,h,if_false]
def mz (gl:aR) (env:Env) (m:Nat) (y:aq) (off:Nat) (rP:Bool):Option AV :=
 if eg env y=m then (match rP,y with
  | true,.g _=>none
  | _,_=>match dn gl env y with
   | some (.ao id o)=>some (.ptr id (o+off))
   | some (.fl cs)=>if off≤cs.length then some (.cU (cs.drop off)) else none
   | _=>none) else none
theorem tA {m d off:Nat} {y:aq} (hm:m=3∨m=4):au gl ⟨env,H⟩ (.on m (.aC d y off))=(mz gl env m y off false).bind fun v=>(⟨env,H⟩:ae).put d v:=by
 by_cases ab:eg env y=m
 ·rw [h4 (s:=⟨env,H⟩) (by simp only [ej,ab])]
  simp only [au,mz,if_pos ab]
  rcases hm with rfl | rfl
  ·rcases Nj (gl:=gl) ab with h | ⟨cs,h⟩
   ·rw [h];rfl
   ·rw [h]
    simp only
    split<;>rfl
  ·obtain ⟨id,o,h⟩:=Nk (gl:=gl) ab
   rw [h];rfl
 ·rw [h5 (s:=⟨env,H⟩) (by simp only [ej];exact ab)]
  simp only [mz,if_neg ab];rfl
theorem tB {m d:Nat} {y:aq} (hm:m=3∨m=4):au gl ⟨env,H⟩ (.on m (.bV d y))=(mz gl env m y 0 true).bind fun v=>(⟨env,H⟩:ae).put d v:=by
 by_cases ab:eg env y=m
 ·rw [h4 (s:=⟨env,H⟩) (by simp only [ej,ab])]
  simp only [au,mz,if_pos ab]
  cases y with
  | t n =>
   simp only [eg] at ab
   simp only [dn]
   split at ab
   ·subst ab;simp at hm
   ·subst ab;simp at hm
   ·rename_i cs h;rw [h];simp
   ·rename_i id o h;rw [h];simp
   ·subst ab;simp at hm
  | g n=>rfl
  | _=>simp [eg] at ab;subst ab;simp at hm
 ·rw [h5 (s:=⟨env,H⟩) (by simp only [ej];exact ab)]
  simp only [mz,if_neg ab];rfl
theorem Nm {m off:Nat} {y:aq} {rP:Bool} (h:d∉bY y):mz gl (env.ins d x) m y off rP=mz gl env m y off rP:=by
 simp only [mz,po h,qt h]
theorem aa8 {m d2 off:Nat} {y:aq} (hm:m=3∨m=4) (aA:d∉bY y) (aa:d2≠d) :
  au gl ⟨env.ins d x,H'⟩ (.on m (.aC d2 y off))=(au gl ⟨env,H⟩ (.on m (.aC d2 y off))).map (hB d x H'):=by
 rw [tA hm,tA hm,Nm aA]
 exact og fun v=>hR aa
theorem aa9 {m d2:Nat} {y:aq} (hm:m=3∨m=4) (aA:d∉bY y) (aa:d2≠d) :
  au gl ⟨env.ins d x,H'⟩ (.on m (.bV d2 y))=(au gl ⟨env,H⟩ (.on m (.bV d2 y))).map (hB d x H'):=by
 rw [tB hm,tB hm,Nm aA]
 exact og fun v=>hR aa
theorem aba {m d2 n:Nat} {y:aq} {ag:Bool} (hm:m=3∨((m=1∨m=2)∧x.dA=false∧∀cs,env.get d≠some (.b cs))) (aA:d∉bY y) (aa:d2≠d) :
  au gl ⟨env.ins d x,H'⟩ (.on m (.ak d2 y n ag))=(au gl ⟨env,H⟩ (.on m (.ak d2 y n ag))).map (hB d x H'):=by
 have key:∀p,dn gl env y=some p→eg env y=m→aV ⟨env.ins d x,H'⟩ n p=aV ⟨env,H⟩ n p:=by
  intro p ao ab
  rcases hm with rfl | ⟨hm,ai,aE⟩
  ·rcases Nj (gl:=gl) ab with h | ⟨cs,h⟩
   ·rw [h] at ao;cases ao
   ·rw [h] at ao;simp at ao;subst ao;rfl
  ·obtain ⟨t,off,h⟩:=qu (gl:=gl) (by rw [ab];exact hm)
   rw [h] at ao;simp at ao;subst ao
   exact Nl ai aE
 by_cases ab:eg env y=m
 ·rw [h4 (s:=⟨env.ins d x,H'⟩) (by simp only [ej,po aA,ab]),h4 (s:=⟨env,H⟩) (by simp only [ej,ab])]
  simp only [au,qt aA]
  cases ao:dn gl env y with
  | none=>rfl
  | some p =>
   simp only [Option.bind_some,key p ao ab]
   refine og fun cs=>?_
   split
   ·exact hR aa
   ·split
    ·exact hR aa
    ·rfl
 ·rw [h5 (s:=⟨env.ins d x,H'⟩) (by simp only [ej,po aA];exact ab),h5 (s:=⟨env,H⟩) (by simp only [ej];exact ab)];rfl
theorem abb {m d2 e sz:Nat} {y:aq} (hm:m=1∨m=2) (ai:x.dA=false) (aE:∀cs,env.get d≠some (.b cs)) (aA:d∉bY y) (aa:d2≠d) :
  au gl ⟨env.ins d x,H'⟩ (.on m (.gO d2 y e sz))=(au gl ⟨env,H⟩ (.on m (.gO d2 y e sz))).map (hB d x H'):=by
 by_cases ab:eg env y=m
 ·rw [h4 (s:=⟨env.ins d x,H'⟩) (by simp only [ej,po aA,ab]),h4 (s:=⟨env,H⟩) (by simp only [ej,ab])]
  simp only [au,qt aA]
  obtain ⟨t,off,h⟩:=qu (env:=env) (gl:=gl) (y:=y) (by rw [ab];exact hm)
  simp only [h,Option.bind_some,Nl (H:=H) (H':=H') ai aE]
  refine og fun cs=>?_
  split
  ·rw [Dt (H:=H) ai aE]
   cases aW ⟨env,H⟩ _ (.cV t off) with
   | none=>rfl
   | some s=>exact Nh aa
  ·exact hR aa
  ·rfl
 ·rw [h5 (s:=⟨env.ins d x,H'⟩) (by simp only [ej,po aA];exact ab),h5 (s:=⟨env,H⟩) (by simp only [ej];exact ab)];rfl
theorem abc {m n:Nat} {y v:aq} (hm:m=1∨m=2) (ai:x.dA=false) (aE:∀cs,env.get d≠some (.b cs)) (aA:d∉bY y) (j5:d∉bY v) :
  au gl ⟨env.ins d x,H'⟩ (.on m (.st n y v))=(au gl ⟨env,H⟩ (.on m (.st n y v))).map (hB d x H'):=by
 by_cases ab:eg env y=m
 ·rw [h4 (s:=⟨env.ins d x,H'⟩) (by simp only [ej,po aA,ab]),h4 (s:=⟨env,H⟩) (by simp only [ej,ab])]
  simp only [au,qt aA,od j5]
  obtain ⟨t,off,h⟩:=qu (env:=env) (gl:=gl) (y:=y) (by rw [ab];exact hm)
  simp only [h,Option.bind_some]
  refine og fun u=>?_
  split
  ·exact Dt ai aE
  ·rfl
 ·rw [h5 (s:=⟨env.ins d x,H'⟩) (by simp only [ej,po aA];exact ab),h5 (s:=⟨env,H⟩) (by simp only [ej];exact ab)];rfl
theorem abd {m v:Nat} {y:aq} (hm:m=1∨m=2) (ai:x.dA=false) (aE:∀cs,env.get d≠some (.b cs)) (aA:d∉bY y) (ax:v≠d) :
  au gl ⟨env.ins d x,H'⟩ (.on m (.fW y v))=(au gl ⟨env,H⟩ (.on m (.fW y v))).map (hB d x H'):=by
 by_cases ab:eg env y=m
 ·rw [h4 (s:=⟨env.ins d x,H'⟩) (by simp only [ej,po aA,ab]),h4 (s:=⟨env,H⟩) (by simp only [ej,ab])]
  simp only [au,qt aA,lb ax]
  obtain ⟨t,off,h⟩:=qu (env:=env) (gl:=gl) (y:=y) (by rw [ab];exact hm)
  simp only [h,Option.bind_some]
  split
  ·rename_i e sz xs qc
   rw [hR (H:=H) ax]
   cases ao:(⟨env,H⟩:ae).put v (.list none sz xs) with
   | none=>rfl
   | some s =>
    simp only [Option.map_some,Option.bind_some]
    refine aa7 ai fun cs af=>?_
    simp only [ae.put] at ao
    split at ao
    ·simp only [Option.some.injEq] at ao
     rw [←ao,Env.fm,if_neg (Ne.symm ax)] at af
     exact aE cs af
    ·cases ao
  ·rfl
 ·rw [h5 (s:=⟨env.ins d x,H'⟩) (by simp only [ej,po aA];exact ab),h5 (s:=⟨env,H⟩) (by simp only [ej];exact ab)];rfl
theorem Nn {t:Nat} (ai:x.eJ=false) (aE:∀u off,env.get d≠some (.a u off)) (aS:env.cR):hV (env.ins d x) t=hV env t:=by
 rw [Bool.eq_iff_iff]
 simp only [hV,List.any_eq_true]
 constructor
 ·rintro ⟨p,ao,bL⟩
  rcases Env.LB ao with rfl | ao
  ·cases x with
   | a u off=>simp [bU.eJ] at ai
   | _=>simp at bL
  ·exact ⟨p,ao,bL⟩
 ·rintro ⟨p,ao,bL⟩
  obtain ⟨k,e⟩:=p
  cases e with
  | a u off =>
   have aK:=Env.get_of_mem aS ao
   have ab:k≠d:=by rintro rfl;exact aE _ _ aK
   exact ⟨(k,.a u off),Env.m0 (by rw [lb ab];exact aK),bL⟩
  | _=>simp at bL
end
end AM
/-! Operations run alike over temporaries that look alike. -/
namespace AM
open Go
def cH (env:Env) (t:Nat):Option bU:=match Env.get env t with
 | some (.b _)=>some (.b [])
 | e=>e
def df (env:Env):List (Nat×bU)→Env
 | []=>env
 | (t,x)::us=>df (env.ins t x) us
structure iv (W:List Nat) (k:Nat) (env:Env) (us:List (Nat×bU)):Prop where
 mem:∀p∈us,p.1∈W
 box:∀p∈us,p.2.dA=true→k=2∧eJ env p.1=false
 put:∀p∈us,p.2.dA=false→c9 env p.1=true
 dn:∀p∈us,p.2.eJ=true→k=1
 one:us.length≤1∨∀p∈us,p.2.eJ=false∧p.2.dA=false
def tC (env:Env) (p:List (Nat×bU)×List aM):ae:=⟨df env p.1,p.2⟩
def iw (W:List Nat) (k:Nat) (env env2:Env) (X Y:Option ae):Prop :=
 ∃gr:Option (List (Nat×bU)×List aM),(∀p,gr=some p→iv W k env p.1)∧X=gr.map (tC env)∧Y=gr.map (tC env2)
section
variable {gl:aR} {env env2:Env} {H H':List aM} {W:List Nat} {k:Nat}
theorem kI {t:Nat} (h:cH env2 t=cH env t):Env.get env2 t=Env.get env t∨∃cs cG,Env.get env t=some (.b cs)∧Env.get env2 t=some (.b cG):=by
 unfold cH at h
 split at h
 ·rename_i cG R
  split at h
  ·rename_i cs aa;exact .inr ⟨cs,cG,aa,R⟩
  ·rename_i bc;exact absurd h.symm (bc [])
 ·rename_i aI bc
  split at h
  ·exact absurd h (bc [])
  ·exact .inl h
theorem h6 {y:aq} (h:∀t∈bY y,cH env2 t=cH env t):bl gl env2 y=bl gl env y:=by
 cases y<;>simp only [bl]
 rename_i n
 rcases kI (h n (by simp [bY])) with h | ⟨cs,cG,R,aa⟩
 ·rw [h]
 ·rw [R,aa]
theorem rQ:∀{ys:List aq},(∀t∈kH ys,cH env2 t=cH env t)→dQ gl env2 ys=dQ gl env ys
 | [],_=>rfl
 | y::ys,h=>by
  simp only [dQ,h6 (y:=y) fun t aF=>h t (by simp [kH,aF]),rQ (ys:=ys) fun t aF=>h t (by simp [kH,aF])]
theorem abe {n:Nat} {y:Option aq} (h:∀t∈tz y,cH env2 t=cH env t):hd gl env2 n y=hd gl env n y:=by
 cases y with
 | none=>rfl
 | some y=>simp only [hd,h6 (y:=y) h]
theorem No:∀{bT:List (Nat×Nat×aq)} {z:List AV},(∀t∈rO bT,cH env2 t=cH env t)→jA gl env2 z bT=jA gl env z bT
 | [],_,_=>rfl
 | (a,b,y)::bT,z,h=>by
  have R:=h6 (gl:=gl) (y:=y) (env:=env) (env2:=env2) fun t aF=>h t (by simp [rO,aF])
  simp only [jA,R]
  split
  ·split
   ·exact No fun t aF=>h t (by simp [rO,aF])
   ·rfl
  ·rfl
theorem tD {y:aq} (h:∀t∈bY y,cH env2 t=cH env t):dn gl env2 y=dn gl env y:=by
 cases y<;>simp only [dn]
 rename_i n
 rcases kI (h n (by simp [bY])) with h | ⟨cs,cG,R,aa⟩
 ·rw [h]
 ·rw [R,aa]
theorem Du {y:aq} (h:∀t∈bY y,cH env2 t=cH env t):eg env2 y=eg env y:=by
 cases y<;>simp only [eg]
 rename_i n
 rcases kI (h n (by simp [bY])) with h | ⟨cs,cG,R,aa⟩
 ·rw [h]
 ·rw [R,aa]
theorem oh {t:Nat} (h:cH env2 t=cH env t):c9 env2 t=c9 env t:=by
 unfold c9
 rcases kI h with h | ⟨cs,cG,R,aa⟩
 ·rw [h]
 ·rw [R,aa]
theorem Np {t:Nat} (h:cH env2 t=cH env t):eJ env2 t=eJ env t:=by
 unfold eJ
 rcases kI h with h | ⟨cs,cG,R,aa⟩
 ·rw [h]
 ·rw [R,aa]
theorem c4:iw W k env env2 none none:=⟨none,by simp,rfl,rfl⟩
theorem qv {α:Type} {o:Option α} {f eR:α→Option ae} (h:∀a,iw W k env env2 (f a) (eR a)):iw W k env env2 (o.bind f) (o.bind eR):=by
 cases o with
 | none=>exact c4
 | some a=>exact h a
theorem hl {t:Nat} {y:AV} (h:cH env2 t=cH env t) (aF:t∈W):iw W k env env2 ((⟨env,H⟩:ae).put t y) ((⟨env2,H⟩:ae).put t y):=by
 unfold ae.put
 rw [oh h]
 by_cases ab:c9 env t=true
 ·rw [if_pos ab,if_pos ab]
  exact ⟨some ([(t,.v y)],H),by intro p ao;cases ao;exact ⟨by simpa using aF,by simp [bU.dA],by simpa using fun _=>ab,by simp [bU.eJ],.inl (by simp)⟩,rfl,rfl⟩
 ·rw [if_neg ab,if_neg ab];exact c4
theorem y5:iw W k env env2 (some ⟨env,H⟩) (some ⟨env2,H⟩) :=
 ⟨some ([],H),by intro p ao;cases ao;exact ⟨by simp,by simp,by simp,by simp,.inl (by simp)⟩,rfl,rfl⟩
theorem Dv {t:Option Nat} {y:AV} (h:∀u,t=some u→cH env2 u=cH env u∧u∈W):iw W k env env2 ((⟨env,H⟩:ae).ef t y) ((⟨env2,H⟩:ae).ef t y):=by
 cases t with
 | none=>exact y5
 | some t=>exact hl (h t rfl).1 (h t rfl).2
theorem Nq {t u:Nat} {y z:AV} (h:cH env2 t=cH env t) (aF:t∈W) (aa:cH env2 u=cH env u) (hu:u∈W) (ck:u≠t) :
  iw W k env env2 (((⟨env,H⟩:ae).put t y).bind fun s=>s.put u z) (((⟨env2,H⟩:ae).put t y).bind fun s=>s.put u z):=by
 unfold ae.put
 rw [oh h]
 by_cases ab:c9 env t=true
 ·rw [if_pos ab,if_pos ab]
  simp only [Option.bind_some]
  rw [oe ck,oe ck,oh aa]
  by_cases ga:c9 env u=true
  ·rw [if_pos ga,if_pos ga]
   refine ⟨some ([(t,.v y),(u,.v z)],H),?_,rfl,rfl⟩
   intro p ao;cases ao
   refine ⟨by simp [aF,hu],?_,?_,?_,.inr ?_⟩
   ·intro p ao;simp at ao;rcases ao with rfl | rfl<;>simp [bU.dA]
   ·intro p ao;simp at ao;rcases ao with rfl | rfl<;>simp [ab,ga]
   ·intro p ao;simp at ao;rcases ao with rfl | rfl<;>simp [bU.eJ]
   ·intro p ao;simp at ao;rcases ao with rfl | rfl<;>simp [bU.eJ,bU.dA]
  ·rw [if_neg ga,if_neg ga];exact c4
 ·rw [if_neg ab,if_neg ab];exact c4
theorem wg {t u off:Nat} (h:cH env2 t=cH env t) (aF:t∈W) (fh:k=1) :
  iw W k env env2 (if c9 env t=true then some ⟨env.ins t (.a u off),H⟩ else none) (if c9 env2 t=true then some ⟨env2.ins t (.a u off),H⟩ else none):=by
 rw [oh h]
 by_cases ab:c9 env t=true
 ·rw [if_pos ab,if_pos ab]
  exact ⟨some ([(t,.a u off)],H),by intro p ao;cases ao;exact ⟨by simpa using aF,by simp [bU.dA],by simpa using fun _=>ab,by simp [fh],.inl (by simp)⟩,rfl,rfl⟩
 ·rw [if_neg ab,if_neg ab];exact c4
theorem Nr {t:Nat} {cs:List AV} (h:cH env2 t=cH env t) (aF:t∈W) (dk:hV env2 t=hV env t) (ga:k=2):iw W k env env2 ((⟨env,H⟩:ae).hW t cs) ((⟨env2,H⟩:ae).hW t cs):=by
 unfold ae.hW
 rw [Np h,dk]
 by_cases ab:(hV env t||eJ env t)=true
 ·rw [if_pos ab,if_pos ab];exact c4
 ·rw [if_neg ab,if_neg ab]
  simp only [Bool.or_eq_true,not_or,Bool.not_eq_true] at ab
  exact ⟨some ([(t,.b cs)],H),by intro p ao;cases ao;exact ⟨by simpa using aF,by simpa using fun _=>⟨ga,ab.2⟩,by simp [bU.dA],by simp [bU.eJ],.inl (by simp)⟩,rfl,rfl⟩
structure Alike (o:bR) (env env2:Env):Prop where
 rd:∀t∈cl o,cH env2 t=cH env t
 wr:∀t∈cE o,cH env2 t=cH env t
 aZ:ba o=2→∀t∈cE o,hV env2 t=hV env t
 cV:ba o=7→∀t cs,env.get t=some (.b cs)↔env2.get t=some (.b cs)
theorem dg {o:bR} {t:Nat} (h:fT o=some t):t∈cE o:=by simp [cE,h]
theorem wh {o:bR} {t:Nat} (h:t∈my o):t∈cE o:=by simp [cE,h]
theorem abf {o:bR} (ab:ba o≠3∧ba o≠6∧ba o≠9) (j7:∀m bZ,o≠.on m bZ) (h:Alike o env env2):iw (cE o) (ba o) env env2 (au gl ⟨env,H⟩ o) (au gl ⟨env2,H⟩ o):=by
 cases o
 case on m bZ=>exact absurd rfl (j7 m bZ)
 case aQ=>exact c4
 case bF=>exact c4
 case eU=>exact c4
 case hK=>exact c4
 case g1=>exact c4
 case hs=>exact c4
 case bad=>simp [ba] at ab
 case ak=>simp [ba] at ab
 case gO=>simp [ba] at ab
 case st=>simp [ba] at ab
 case fW=>simp [ba] at ab
 case mW=>simp [ba] at ab
 case iC b n y v =>
  have R:=h6 (gl:=gl) (y:=y) (env:=env) (env2:=env2) fun t aF=>h.rd t (by simp [cl,aF])
  have aa:=h6 (gl:=gl) (y:=v) (env:=env) (env2:=env2) fun t aF=>h.rd t (by simp [cl,aF])
  simp only [au,R,aa]
  cases nV b n H (bl gl env y) (bl gl env v) with
  | none=>exact c4
  | some H'=>exact y5
 case bg d2 y =>
  have aT:=h.rd y (by simp [cl])
  have aw:=h.wr d2 (dg rfl)
  simp only [au]
  rcases kI aT with e | ⟨cs,cG,aB,aI⟩
  ·rw [e]
   split
   ·split
    ·exact c4
    ·rename_i ck
     exact Nq aT (wh (by simp [my])) aw (dg rfl) ck
   ·exact hl aw (dg rfl)
   ·exact c4
  ·rw [aB,aI];exact c4
 case ext d2 y i =>
  have aT:=h.rd y (by simp [cl])
  have aw:=h.wr d2 (dg rfl)
  simp only [au]
  rcases kI aT with e | ⟨cs,cG,aB,aI⟩
  ·rw [e]
   split
   ·exact qv fun v=>hl aw (dg rfl)
   ·exact c4
  ·rw [aB,aI];exact c4
 case app d2 u y e sz =>
  have aT:=h.rd u (by simp [cl])
  have aw:=h.wr d2 (dg rfl)
  have aE:=h6 (gl:=gl) (y:=y) (env:=env) (env2:=env2) fun t aF=>h.rd t (by simp [cl,aF])
  simp only [au,aE]
  rcases kI aT with e | ⟨cs,cG,aB,aI⟩
  ·rw [e]
   split
   ·split
    ·rename_i bc
     exact Nq aT (wh (by simp [my])) aw (dg rfl) bc.2.2.2.1
    ·exact c4
   ·split
    ·exact hl aw (dg rfl)
    ·exact c4
   ·exact c4
  ·rw [aB,aI];exact c4
 case mj d2 u y e sz =>
  have aT:=h.rd u (by simp [cl])
  have aw:=h.wr d2 (dg rfl)
  have aE:=h6 (gl:=gl) (y:=y) (env:=env) (env2:=env2) fun t aF=>h.rd t (by simp [cl,aF])
  simp only [au,aE]
  rcases kI aT with e | ⟨cs,cG,aB,aI⟩
  ·rw [e]
   split
   ·split
    ·split
     ·exact hl aw (dg rfl)
     ·exact hl aw (dg rfl)
    ·exact c4
   ·exact c4
  ·rw [aB,aI];exact c4
 case mS d2 u y e sz =>
  have aT:=h.rd u (by simp [cl])
  have aw:=h.wr d2 (dg rfl)
  have aE:=h6 (gl:=gl) (y:=y) (env:=env) (env2:=env2) fun t aF=>h.rd t (by simp [cl,aF])
  simp only [au,aE]
  rcases kI aT with e | ⟨cs,cG,aB,aI⟩
  ·rw [e]
   split
   ·split
    ·split
     ·exact hl aw (dg rfl)
     ·exact hl aw (dg rfl)
    ·exact c4
   ·exact c4
  ·rw [aB,aI];exact c4
 case lA az m kk v =>
  have aT:=h.rd v (by simp [cl])
  have ax:=h.wr v (wh (by simp [my]))
  have R:=h6 (gl:=gl) (y:=m) (env:=env) (env2:=env2) fun t aF=>h.rd t (by simp [cl,aF])
  have aa:=h6 (gl:=gl) (y:=kk) (env:=env) (env2:=env2) fun t aF=>h.rd t (by simp [cl,aF])
  simp only [au,R,aa]
  rcases kI aT with e | ⟨cs,cG,aB,aI⟩
  ·rw [e]
   split
   ·split
    ·split
     ·exact hl ax (wh (by simp [my]))
     ·exact c4
    ·exact c4
   ·exact c4
  ·rw [aB,aI]
   split
   ·rename_i bc;simp at bc
   ·split
    ·rename_i bc;simp at bc
    ·exact c4
 case bV d2 y =>
  have aw:=h.wr d2 (dg rfl)
  cases y with
  | t n =>
   have aT:=h.rd n (by simp [cl,bY])
   simp only [au]
   rcases kI aT with e | ⟨cs,cG,aB,aI⟩
   ·rw [e]
    split
    ·exact wg aw (dg rfl) rfl
    ·exact wg aw (dg rfl) rfl
    ·exact hl aw (dg rfl)
    ·exact hl aw (dg rfl)
    ·exact c4
   ·rw [aB,aI];exact wg aw (dg rfl) rfl
  | _=>exact c4
 case aC d2 y off =>
  have aw:=h.wr d2 (dg rfl)
  have R:=tD (gl:=gl) (y:=y) (env:=env) (env2:=env2) fun t aF=>h.rd t (by simpa [cl] using aF)
  simp only [au,R]
  split
  ·exact wg aw (dg rfl) rfl
  ·exact hl aw (dg rfl)
  ·split
   ·exact hl aw (dg rfl)
   ·exact c4
  ·exact c4
 case jR d2 y n sz i =>
  have aw:=h.wr d2 (dg rfl)
  have R:=tD (gl:=gl) (y:=y) (env:=env) (env2:=env2) fun t aF=>h.rd t (by simp [cl,aF])
  have aa:=h6 (gl:=gl) (y:=i) (env:=env) (env2:=env2) fun t aF=>h.rd t (by simp [cl,aF])
  simp only [au,R,aa,oh aw]
  split
  ·rename_i t o qw j _ _
   by_cases bc:0≤j∧j<n∧c9 env d2=true
   ·rw [if_pos bc,if_pos bc]
    have:=wg (H:=H) (u:=t) (off:=o+j.toNat*sz) aw (dg (o:=.jR d2 y n sz i) rfl) (rfl:ba (.jR d2 y n sz i)=1)
    rw [if_pos bc.2.2,if_pos (by rw [oh aw];exact bc.2.2)] at this
    exact this
   ·rw [if_neg bc,if_neg bc];exact c4
  ·split
   ·exact hl aw (dg rfl)
   ·exact c4
  ·split
   ·exact hl aw (dg rfl)
   ·exact c4
  ·exact c4
 case alloc d2 z=>exact Nr (h.wr d2 (dg rfl)) (dg rfl) (h.aZ rfl d2 (dg rfl)) rfl
 case box d2 y =>
  have R:=h6 (gl:=gl) (y:=y) (env:=env) (env2:=env2) fun t aF=>h.rd t (by simpa [cl] using aF)
  simp only [au,R]
  refine qv fun v=>?_
  split
  ·exact Nr (h.wr d2 (dg rfl)) (dg rfl) (h.aZ rfl d2 (dg rfl)) rfl
  ·exact c4
 case kW az d2 m kk =>
  have R:=h6 (gl:=gl) (y:=m) (env:=env) (env2:=env2) fun t aF=>h.rd t (by simp [cl,aF])
  have aa:=h6 (gl:=gl) (y:=kk) (env:=env) (env2:=env2) fun t aF=>h.rd t (by simp [cl,aF])
  simp only [au,R,aa]
  split
  ·split
   ·split
    ·exact Dv fun u hu=>⟨h.wr u (dg (by simpa [fT] using hu)),dg (by simpa [fT] using hu)⟩
    ·exact c4
   ·exact c4
  ·exact c4
 case iT az m kk v =>
  have R:=h6 (gl:=gl) (y:=m) (env:=env) (env2:=env2) fun t aF=>h.rd t (by simp [cl,aF])
  have aa:=h6 (gl:=gl) (y:=kk) (env:=env) (env2:=env2) fun t aF=>h.rd t (by simp [cl,aF])
  have al:=h6 (gl:=gl) (y:=v) (env:=env) (env2:=env2) fun t aF=>h.rd t (by simp [cl,aF])
  simp only [au,R,aa,al]
  split
  ·split
   ·split
    ·exact y5
    ·exact c4
   ·exact c4
  ·exact c4
 all_goals
  have aa:=fun t aF=>h.wr t (dg (t:=t) aF)
  simp only [fT,Option.some.injEq,forall_eq'] at aa
  have aA:=h.rd
  simp only [cl] at aA
  simp (disch:=(intro t aF;apply aA;simp [aF])) only [au,h6 (env:=env) (env2:=env2),rQ (env:=env) (env2:=env2),abe (env:=env) (env2:=env2),No (env:=env) (env2:=env2),tD (env:=env) (env2:=env2)]
  repeat' (first | exact hl aa (dg rfl) | exact c4 | (refine qv fun _=>?_) | split)
theorem abg {n t off:Nat} (h:∀t cs,env.get t=some (.b cs)↔env2.get t=some (.b cs)):aV ⟨env2,H⟩ n (.cV t off)=aV ⟨env,H⟩ n (.cV t off):=by
 simp only [aV]
 cases R:Env.get env t with
 | none =>
  cases aa:Env.get env2 t with
  | none=>rfl
  | some e=>cases e with
   | b cs=>rw [(h t cs).2 aa] at R;cases R
   | _=>rfl
 | some e=>cases e with
  | b cs=>rw [(h t cs).1 R]
  | _ =>
   cases aa:Env.get env2 t with
   | none=>rfl
   | some e=>cases e with
    | b cs=>rw [(h t cs).2 aa] at R;cases R
    | _=>rfl
theorem abh {m d n:Nat} {y:aq} {ag:Bool} (ab:ba (.on m (.ak d y n ag))≠9) (h:Alike (.on m (.ak d y n ag)) env env2) :
  iw (cE (.on m (.ak d y n ag))) (ba (.on m (.ak d y n ag))) env env2 (au gl ⟨env,H⟩ (.on m (.ak d y n ag))) (au gl ⟨env2,H⟩ (.on m (.ak d y n ag))):=by
 have aA:∀t∈bY y,cH env2 t=cH env t:=fun t aF=>h.rd t (by simpa [cl] using aF)
 have wi:=Du aA
 by_cases hm:eg env y=m
 ·rw [h4 (s:=⟨env,H⟩) (by simp only [ej,hm]),h4 (s:=⟨env2,H⟩) (by simp only [ej,wi,hm])]
  simp only [au,tD aA]
  have key:∀p,dn gl env y=some p→aV ⟨env2,H⟩ n p=aV ⟨env,H⟩ n p:=by
   intro p ao
   cases p with
   | ao id off=>rfl
   | fl cs=>rfl
   | cV t off =>
    refine abg (h.cV ?_)
    simp only [ba] at ab ⊢
    have abi:m=1∨m=2:=by
     rw [←hm]
     cases y<;>simp only [dn,reduceCtorEq] at ao
     ·rename_i u
      simp only [eg]
      split at ao<;>simp_all
     ·split at ao<;>simp at ao
    rcases abi with rfl | rfl<;>simp
  cases ao:dn gl env y with
  | none=>exact c4
  | some p =>
   simp only [Option.bind_some,key p ao]
   refine qv fun cs=>?_
   split
   ·exact hl (h.wr d (dg rfl)) (dg rfl)
   ·split
    ·exact hl (h.wr d (dg rfl)) (dg rfl)
    ·exact c4
 ·rw [h5 (s:=⟨env,H⟩) (by simp only [ej];exact hm),h5 (s:=⟨env2,H⟩) (by simp only [ej,wi];exact hm)]
  exact c4
theorem Dw {id off:Nat} {vs:List AV}:∃gr:Option (List aM),∀env,aW ⟨env,H⟩ vs (.ao id off)=gr.map fun H'=>⟨env,H'⟩:=by
 simp only [aW]
 cases H[id]? with
 | none=>exact ⟨none,fun _=>rfl⟩
 | some o =>
  cases o with
  | cells cs =>
   by_cases h:off+vs.length≤cs.length
   ·exact ⟨some (H.set id (.cells (eV cs off vs))),fun _=>by simp [h]⟩
   ·exact ⟨none,fun _=>by simp [h]⟩
  | buf e cs =>
   by_cases h:off+vs.length≤cs.length
   ·exact ⟨some (H.set id (.buf e (eV cs off vs))),fun _=>by simp [h]⟩
   ·exact ⟨none,fun _=>by simp [h]⟩
  | _=>exact ⟨none,fun _=>rfl⟩
theorem Dx {m:Nat} {o:bR} (aE:(∃d y e sz,o=.gO d y e sz)∨(∃n y v,o=.st n y v)∨∃y v,o=.fW y v) (ab:ba (.on m o)=4) (h:Alike (.on m o) env env2) :
  iw (cE (.on m o)) (ba (.on m o)) env env2 (au gl ⟨env,H⟩ (.on m o)) (au gl ⟨env2,H⟩ (.on m o)):=by
 have vt:m=4:=by
  rcases aE with ⟨d,y,e,sz,rfl⟩ | ⟨n,y,v,rfl⟩ | ⟨y,v,rfl⟩ <;>
  ·simp only [ba] at ab
   split at ab
   ·assumption
   ·split at ab<;>cases ab
 subst vt
 have Ns:∀t∈bY (ej o),cH env2 t=cH env t:=fun t aF=>h.rd t (by
  rcases aE with ⟨d,y,e,sz,rfl⟩ | ⟨n,y,v,rfl⟩ | ⟨y,v,rfl⟩<;>simp only [ej] at aF<;>simp [cl,aF])
 have wi:=Du Ns
 by_cases hm:eg env (ej o)=4
 ·rw [h4 (s:=⟨env,H⟩) (by simp only [hm]),h4 (s:=⟨env2,H⟩) (by simp only [wi,hm])]
  obtain ⟨id,off,aZ⟩:=Nk (gl:=gl) hm
  have h7:dn gl env2 (ej o)=some (.ao id off):=by rw [tD Ns,aZ]
  rcases aE with ⟨d,y,e,sz,rfl⟩ | ⟨n,y,v,rfl⟩ | ⟨y,v,rfl⟩
  ·simp only [ej] at aZ h7
   simp only [au,aZ,h7,Option.bind_some]
   have Dy:aV ⟨env2,H⟩ 1 (.ao id off)=aV ⟨env,H⟩ 1 (.ao id off):=rfl
   rw [Dy]
   refine qv fun cs=>?_
   split
   ·obtain ⟨gr,ld⟩:=Dw (H:=H) (id:=id) (off:=off) (vs:=[.list none _ _])
    rw [ld env,ld env2]
    cases gr with
    | none=>exact c4
    | some H'=>exact hl (h.wr d (dg rfl)) (dg rfl)
   ·exact hl (h.wr d (dg rfl)) (dg rfl)
   ·exact c4
  ·simp only [ej] at aZ h7
   have ax:=h6 (gl:=gl) (y:=v) (env:=env) (env2:=env2) fun t aF=>h.rd t (by simp [cl,aF])
   simp only [au,aZ,h7,ax,Option.bind_some]
   refine qv fun u=>?_
   split
   ·obtain ⟨gr,ld⟩:=Dw (H:=H) (id:=id) (off:=off) (vs:=u.cells.map AV.aL)
    rw [ld env,ld env2]
    cases gr with
    | none=>exact c4
    | some H'=>exact y5
   ·exact c4
  ·simp only [ej] at aZ h7
   have aT:=h.rd v (by simp [cl])
   simp only [au,aZ,h7,Option.bind_some]
   rcases kI aT with e | ⟨cs,cG,aB,aI⟩
   ·rw [e]
    split
    ·rename_i bB sz xs _
     simp only [ae.put]
     rw [oh aT]
     by_cases cq:c9 env v=true
     ·rw [if_pos cq,if_pos cq]
      simp only [Option.bind_some]
      obtain ⟨gr,ld⟩:=Dw (H:=H) (id:=id) (off:=off) (vs:=[.list (some bB) sz xs])
      rw [ld,ld]
      cases gr with
      | none=>exact c4
      | some H' =>
       have:=hl (H:=H') (k:=ba (.on 4 (.fW y v))) (y:=.list none sz xs) aT (wh (o:=.on 4 (.fW y v)) (by simp [my]))
       simp only [ae.put] at this
       rw [oh aT,if_pos cq,if_pos cq] at this
       exact this
     ·rw [if_neg cq,if_neg cq];exact c4
    ·exact c4
   ·rw [aB,aI];exact c4
 ·rw [h5 (s:=⟨env,H⟩) hm,h5 (s:=⟨env2,H⟩) (by simp only [wi];exact hm)]
  exact c4
theorem Nt {m off:Nat} {y:aq} {rP:Bool} (h:∀t∈bY y,cH env2 t=cH env t):mz gl env2 m y off rP=mz gl env m y off rP:=by
 simp only [mz,Du h,tD h]
theorem abj {m d off:Nat} {y:aq} (hm:m=3∨m=4) (h:Alike (.on m (.aC d y off)) env env2) :
  iw (cE (.on m (.aC d y off))) (ba (.on m (.aC d y off))) env env2 (au gl ⟨env,H⟩ (.on m (.aC d y off))) (au gl ⟨env2,H⟩ (.on m (.aC d y off))):=by
 rw [tA hm,tA hm,Nt fun t aF=>h.rd t (by simpa [cl] using aF)]
 exact qv fun v=>hl (h.wr d (dg rfl)) (dg rfl)
theorem abk {m d:Nat} {y:aq} (hm:m=3∨m=4) (h:Alike (.on m (.bV d y)) env env2) :
  iw (cE (.on m (.bV d y))) (ba (.on m (.bV d y))) env env2 (au gl ⟨env,H⟩ (.on m (.bV d y))) (au gl ⟨env2,H⟩ (.on m (.bV d y))):=by
 rw [tB hm,tB hm,Nt fun t aF=>h.rd t (by simpa [cl] using aF)]
 exact qv fun v=>hl (h.wr d (dg rfl)) (dg rfl)
theorem tE {m:Nat} (h:¬(if m=3∨m=4 then 0 else 9)=9):m=3∨m=4:=by
 split at h
 ·assumption
 ·exact absurd rfl h
theorem rR {o:bR} (ab:ba o≠3∧ba o≠6∧ba o≠9) (h:Alike o env env2):iw (cE o) (ba o) env env2 (au gl ⟨env,H⟩ o) (au gl ⟨env2,H⟩ o):=by
 by_cases j7:∃m bZ,o=.on m bZ
 ·obtain ⟨m,bZ,rfl⟩:=j7
  cases bZ
  case ak d y n ag=>exact abh ab.2.2 h
  case aC d y off=>exact abj (tE ab.2.2) h
  case bV d y=>exact abk (tE ab.2.2) h
  case gO d y e sz =>
   refine Dx (.inl ⟨_,_,_,_,rfl⟩) ?_ h
   simp only [ba] at ab ⊢
   split at ab
   ·rename_i hm;rw [if_pos hm]
   ·split at ab<;>simp at ab
  case st n y v =>
   refine Dx (.inr (.inl ⟨_,_,_,rfl⟩)) ?_ h
   simp only [ba] at ab ⊢
   split at ab
   ·rename_i hm;rw [if_pos hm]
   ·split at ab<;>simp at ab
  case fW y v =>
   refine Dx (.inr (.inr ⟨_,_,rfl⟩)) ?_ h
   simp only [ba] at ab ⊢
   split at ab
   ·rename_i hm;rw [if_pos hm]
   ·split at ab<;>simp at ab
  all_goals simp [ba] at ab
 ·exact abf ab (fun m bZ e=>j7 ⟨m,bZ,e⟩) h
end
end AM
/-! Operations that do not meet may be exchanged. -/
namespace AM
open Go
section
variable {P:Program} {gl:aR} {D:cv} {env env2:Env} {H H':List aM}
def jf (gl:aR) (D:cv) (s:ae):bR→Option ae
 | .aQ d f xs=>(dQ gl s.env xs).bind fun vs=>if (vs.map AV.aL).all AV.arg=true then (D f (vs.map AV.aL)).bind fun r=>s.ef d r else none
 | o=>au gl s o
def qx (P:Program) (gl:aR) (D:cv) (env:Env):bR→Prop
 | .aQ _ f xs=>∀vs r,dQ gl env xs=some vs→D f (vs.map AV.aL)=some r→a4 P gl f (vs.map AV.aL) r
 | _=>True
def eT (k:Nat):Bool:=k==0||k==1||k==2||k==3||k==7
def qy (k:Nat):Bool:=k==0||k==1||k==2||k==4||k==5||k==6||k==7
theorem y6 {s:ae} {K:ae→Prop} {o:bR} (ab:(match o with | .aQ _ _ _ | .bF _ _ _ | .eU _ _ _ | .hK _ _ _ _ | .g1 _ _ _ | .hs _ _=>false | _=>true)=true) :
  b0 P gl D s K o↔∃s1,au gl s o=some s1∧K s1:=by
 have nn:(match au gl s o with | some s'=>K s' | none=>False)↔∃s1,au gl s o=some s1∧K s1:=by
  cases au gl s o with
  | none=>simp
  | some s1=>simp
 cases o<;>first | exact nn | simp at ab
theorem rS {s:ae} {K:ae→Prop} {o:bR} (ab:eT (ba o)=true∨ba o=5):b0 P gl D s K o↔qx P gl D s.env o∧∃s1,jf gl D s o=some s1∧K s1:=by
 by_cases af:∃d f xs,o=.aQ d f xs
 ·obtain ⟨d,f,xs,rfl⟩:=af
  simp only [b0,jf,qx]
  cases he:dQ gl s.env xs with
  | none=>simp
  | some vs =>
   simp only [Option.bind_some]
   by_cases aZ:(vs.map AV.aL).all AV.arg=true
   ·simp only [aZ,if_true,true_and]
    cases tF:D f (vs.map AV.aL) with
    | none=>simp
    | some r =>
     simp only [Option.bind_some]
     cases ao:s.ef d r with
     | none=>simp
     | some s1 =>
      simp only
      constructor
      ·rintro ⟨R,aa⟩
       exact ⟨fun aqQ cQ al aY=>by simp at al;subst al;rw [tF] at aY;simp at aY;subst aY;exact R,s1,rfl,aa⟩
      ·rintro ⟨R,s2,aa,al⟩
       simp at aa;subst aa
       exact ⟨R vs r rfl tF,al⟩
   ·simp [aZ]
 ·have R:jf gl D s o=au gl s o:=by cases o<;>first | rfl | exact absurd ⟨_,_,_,rfl⟩ af
  have aa:qx P gl D s.env o↔True:=by cases o<;>first | exact Iff.rfl | exact absurd ⟨_,_,_,rfl⟩ af
  rw [R,aa,true_and]
  refine y6 ?_
  cases o<;>first | rfl | exact absurd ⟨_,_,_,rfl⟩ af | (simp [eT,ba] at ab)
theorem abl {d:Nat} {x:bU} {o:bR} (aS:env.cR) (ab:eT (ba o)=true) (aA:d∉cl o) (hw:d∉cE o)
  (aa:ba o=2→x.eJ=false∧∀u off,env.get d≠some (.a u off)) (al:ba o=3∨ba o=7→x.dA=false∧∀cs,env.get d≠some (.b cs)) :
  jf gl D ⟨env.ins d x,H'⟩ o=(jf gl D ⟨env,H⟩ o).map (hB d x H'):=by
 by_cases af:∃wj f xs,o=.aQ wj f xs
 ·obtain ⟨wj,f,xs,rfl⟩:=af
  simp only [jf]
  rw [y4 (by simpa [cl] using aA)]
  refine og fun vs=>?_
  split
  ·exact og fun r=>aa5 fun u hu=>j6 hw (by simpa [fT] using hu)
  ·rfl
 ·have R:∀s,jf gl D s o=au gl s o:=fun s=>by cases o<;>first | rfl | exact absurd ⟨_,_,_,rfl⟩ af
  rw [R,R]
  by_cases j7:∃m bZ,o=.on m bZ
  ·obtain ⟨m,bZ,rfl⟩:=j7
   cases bZ
   case ak d2 y n ag =>
    have o0:d2≠d:=j6 hw rfl
    have abm:d∉bY y:=by simpa [cl] using aA
    refine aba ?_ abm o0
    simp only [ba] at ab al
    split at ab
    ·left;assumption
    ·split at ab
     ·simp [eT] at ab
     ·split at ab
      ·rename_i aY bn cw
       right
       refine ⟨cw,al ?_⟩
       simp [aY,bn,cw]
      ·simp [eT] at ab
   case aC d2 y off=>exact aa8 (tE fun e=>by simp only [ba] at ab;rw [e] at ab;simp [eT] at ab) (by simpa [cl] using aA) (j6 hw rfl)
   case bV d2 y=>exact aa9 (tE fun e=>by simp only [ba] at ab;rw [e] at ab;simp [eT] at ab) (by simpa [cl] using aA) (j6 hw rfl)
   case gO d2 y e sz =>
    have hm:m≠4∧(m=1∨m=2):=by
     simp only [ba] at ab
     split at ab
     ·simp [eT] at ab
     ·split at ab
      ·exact ⟨by assumption,by assumption⟩
      ·simp [eT] at ab
    obtain ⟨an,ar⟩:=al (.inl (by simp [ba,hm.1,hm.2]))
    exact abb hm.2 an ar (by simpa [cl] using aA) (j6 hw rfl)
   case st n y v =>
    have hm:m≠4∧(m=1∨m=2):=by
     simp only [ba] at ab
     split at ab
     ·simp [eT] at ab
     ·split at ab
      ·exact ⟨by assumption,by assumption⟩
      ·simp [eT] at ab
    obtain ⟨an,ar⟩:=al (.inl (by simp [ba,hm.1,hm.2]))
    simp only [cl,List.mem_append,not_or] at aA
    exact abc hm.2 an ar aA.1 aA.2
   case fW y v =>
    have hm:m≠4∧(m=1∨m=2):=by
     simp only [ba] at ab
     split at ab
     ·simp [eT] at ab
     ·split at ab
      ·exact ⟨by assumption,by assumption⟩
      ·simp [eT] at ab
    obtain ⟨an,ar⟩:=al (.inl (by simp [ba,hm.1,hm.2]))
    simp only [cl,List.mem_cons,not_or] at aA
    exact abd hm.2 an ar aA.2 (fun e=>aA.1 e.symm)
   all_goals simp [ba,eT] at ab
  ·by_cases ah:(∃d2 z,o=.alloc d2 z)∨∃d2 y,o=.box d2 y
   ·have key:∀(d2:Nat) (cs:List AV),d2≠d→x.eJ=false→(∀u off,env.get d≠some (.a u off))→(⟨env.ins d x,H'⟩:ae).hW d2 cs=((⟨env,H⟩:ae).hW d2 cs).map (hB d x H'):=by
     intro d2 cs ck ai aE
     have dk:eJ (env.ins d x) d2=eJ env d2:=by simp only [eJ,lb ck]
     simp only [ae.hW,Nn ai aE aS,dk]
     split
     ·rfl
     ·exact wc ck
    rcases ah with ⟨d2,z,rfl⟩ | ⟨d2,y,rfl⟩
    ·obtain ⟨an,ar⟩:=aa rfl
     exact key d2 z (j6 hw rfl) an ar
    ·obtain ⟨an,ar⟩:=aa rfl
     simp only [au]
     rw [od (by simpa [cl] using aA)]
     refine og fun v=>?_
     split
     ·exact key d2 _ (j6 hw rfl) an ar
     ·rfl
   ·refine aa6 ?_ (fun m bZ e=>j7 ⟨m,bZ,e⟩) aA hw
    cases o<;>first | (simp [ba];done) | exact absurd ⟨_,_,rfl⟩ j7 | exact absurd (.inl ⟨_,_,rfl⟩) ah | exact absurd (.inr ⟨_,_,rfl⟩) ah | (simp [ba,eT] at ab;done) | skip
    all_goals (simp only [ba] at ab ⊢;split at ab<;>simp_all [eT])
end
end AM
/-! Operations over temporaries leave the heap. -/
namespace AM
open Go
section
variable {P:Program} {gl:aR} {D:cv} {env env2:Env} {H H':List aM}
def jK (H:List aM) (s:ae):ae:=⟨s.env,H⟩
theorem fL {t:Nat} {y:AV}:(⟨env,H'⟩:ae).put t y=((⟨env,H⟩:ae).put t y).map (jK H'):=by
 simp only [ae.put];split<;>rfl
theorem Nu {s:ae} {t:Nat} {y:AV}:(jK H' s).put t y=(s.put t y).map (jK H'):=fL (H:=s.heap)
theorem abn {t:Nat} {y:List AV}:(⟨env,H'⟩:ae).hW t y=((⟨env,H⟩:ae).hW t y).map (jK H'):=by
 simp only [ae.hW];split<;>rfl
theorem abo {t:Option Nat} {y:AV}:(⟨env,H'⟩:ae).ef t y=((⟨env,H⟩:ae).ef t y).map (jK H'):=by
 cases t with
 | none=>rfl
 | some t=>exact fL
theorem abp {t u:Nat} {y z:AV}:((⟨env,H'⟩:ae).put t y).bind (fun s=>s.put u z)=(((⟨env,H⟩:ae).put t y).bind fun s=>s.put u z).map (jK H'):=by
 rw [fL (H:=H)]
 cases (⟨env,H⟩:ae).put t y with
 | none=>rfl
 | some s=>exact Nu
theorem lR {α:Type} {o:Option α} {f eR:α→Option ae} (h:∀a,eR a=(f a).map (jK H')):o.bind eR=(o.bind f).map (jK H'):=by
 cases o with
 | none=>rfl
 | some a=>exact h a
theorem y7 {c:Prop} [Decidable c] {e:Env}:(if c then some (⟨e,H'⟩:ae) else none)=(if c then some (⟨e,H⟩:ae) else none).map (jK H'):=by split<;>rfl
theorem abq {o:bR} (ab:ba o=0∨ba o=1∨ba o=2) (j7:∀m bZ,o≠.on m bZ):au gl ⟨env,H'⟩ o=(au gl ⟨env,H⟩ o).map (jK H'):=by
 cases o<;>simp only [ba,reduceCtorEq,or_self,Nat.reduceEqDiff] at ab
 case on m bZ=>exact absurd rfl (j7 m bZ)
 case aQ=>rfl
 case len d2 m y =>
  have hm:m≠2:=by rintro rfl;simp at ab
  simp only [au,hm,if_false]
  repeat' (first | exact fL | rfl | split)
 case jR d2 y n sz i =>
  simp only [au]
  split
  ·exact y7
  ·split
   ·exact fL
   ·rfl
  ·split
   ·exact fL
   ·rfl
  ·rfl
 case bV d2 y =>
  cases y with
  | t n =>
   simp only [au]
   split
   ·exact y7
   ·exact y7
   ·exact fL
   ·exact fL
   ·rfl
  | _=>rfl
 case aC d2 y off =>
  simp only [au]
  split
  ·exact y7
  ·exact fL
  ·split
   ·exact fL
   ·rfl
  ·rfl
 all_goals
  simp only [au]
  repeat' (first | exact fL | exact abn | exact abp | rfl | (refine lR fun _=>?_) | split)
theorem Nv {n:Nat} {p:iD} (h:∀id off,p≠.ao id off):aV ⟨env,H'⟩ n p=aV ⟨env,H⟩ n p:=by
 cases p with
 | cV t off=>rfl
 | ao id off=>exact absurd rfl (h id off)
 | fl cs=>rfl
theorem Dz {t off:Nat} {vs:List AV}:aW ⟨env,H'⟩ vs (.cV t off)=(aW ⟨env,H⟩ vs (.cV t off)).map (jK H'):=by
 simp only [aW]
 split
 ·split<;>rfl
 ·rfl
theorem abr {m:Nat} {o:bR} (ab:eT (ba (.on m o))=true):au gl ⟨env,H'⟩ (.on m o)=(au gl ⟨env,H⟩ (.on m o)).map (jK H'):=by
 have Nw:¬(if m=3∨m=4 then 0 else 9)=9∨eT (if m=3∨m=4 then 0 else 9)=false:=by
  split
  ·left;simp
  ·right;rfl
 by_cases pq:(∃d y off,o=.aC d y off)∨∃d y,o=.bV d y
 ·rcases pq with ⟨d,y,off,rfl⟩ | ⟨d,y,rfl⟩
  ·have hm:=tE (Nw.resolve_right fun e=>by simp only [ba,e] at ab;cases ab)
   rw [tA hm,tA hm]
   exact lR fun v=>fL
  ·have hm:=tE (Nw.resolve_right fun e=>by simp only [ba,e] at ab;cases ab)
   rw [tB hm,tB hm]
   exact lR fun v=>fL
 by_cases hm:eg env (ej o)=m
 ·rw [h4 (s:=⟨env,H'⟩) hm,h4 (s:=⟨env,H⟩) hm]
  cases o
  case aC d y off=>exact absurd (.inl ⟨_,_,_,rfl⟩) pq
  case bV d y=>exact absurd (.inr ⟨_,_,rfl⟩) pq
  case ak d2 y n ag =>
   simp only [au]
   have key:∀p,dn gl env y=some p→∀id off,p≠.ao id off:=by
    intro p ao id off e
    subst e
    simp only [ba] at ab
    have aY:m=4:=by
     rw [←hm]
     simp only [ej]
     cases y<;>simp only [dn,reduceCtorEq] at ao
     ·simp only [eg];split at ao<;>simp_all
     ·split at ao<;>simp at ao
    subst aY
    simp [eT] at ab
   cases ao:dn gl env y with
   | none=>rfl
   | some p =>
    simp only [Option.bind_some,Nv (H:=H) (H':=H') (key p ao)]
    refine lR fun cs=>?_
    split
    ·exact fL
    ·split
     ·exact fL
     ·rfl
  case gO d2 y e sz =>
   have rT:m=1∨m=2:=by
    simp only [ba] at ab
    split at ab
    ·simp [eT] at ab
    ·split at ab
     ·assumption
     ·simp [eT] at ab
   obtain ⟨t,off,h⟩:=qu (gl:=gl) (env:=env) (y:=y) (by simp only [ej] at hm;rw [hm];exact rT)
   simp only [au,h,Option.bind_some]
   rw [Nv (H:=H) (H':=H') (p:=.cV t off) (by simp)]
   refine lR fun cs=>?_
   split
   ·rw [Dz (H:=H)]
    cases aW ⟨env,H⟩ _ (.cV t off) with
    | none=>rfl
    | some s=>exact Nu
   ·exact fL
   ·rfl
  case st n y v =>
   have rT:m=1∨m=2:=by
    simp only [ba] at ab
    split at ab
    ·simp [eT] at ab
    ·split at ab
     ·assumption
     ·simp [eT] at ab
   obtain ⟨t,off,h⟩:=qu (gl:=gl) (env:=env) (y:=y) (by simp only [ej] at hm;rw [hm];exact rT)
   simp only [au,h,Option.bind_some]
   refine lR fun u=>?_
   split
   ·exact Dz
   ·rfl
  case fW y v =>
   have rT:m=1∨m=2:=by
    simp only [ba] at ab
    split at ab
    ·simp [eT] at ab
    ·split at ab
     ·assumption
     ·simp [eT] at ab
   obtain ⟨t,off,h⟩:=qu (gl:=gl) (env:=env) (y:=y) (by simp only [ej] at hm;rw [hm];exact rT)
   simp only [au,h,Option.bind_some]
   split
   ·rw [fL (H:=H)]
    cases (⟨env,H⟩:ae).put v _ with
    | none=>rfl
    | some s=>exact Dz (H:=s.heap)
   ·rfl
  all_goals simp [ba,eT] at ab
 ·rw [h5 (s:=⟨env,H'⟩) hm,h5 (s:=⟨env,H⟩) hm];rfl
theorem Nx {o:bR} (ab:eT (ba o)=true):jf gl D ⟨env,H'⟩ o=(jf gl D ⟨env,H⟩ o).map (jK H'):=by
 by_cases af:∃wj f xs,o=.aQ wj f xs
 ·obtain ⟨wj,f,xs,rfl⟩:=af
  simp only [jf]
  refine lR fun vs=>?_
  split
  ·exact lR fun r=>abo
  ·rfl
 ·have R:∀s,jf gl D s o=au gl s o:=fun s=>by cases o<;>first | rfl | exact absurd ⟨_,_,_,rfl⟩ af
  rw [R,R]
  by_cases j7:∃m bZ,o=.on m bZ
  ·obtain ⟨m,bZ,rfl⟩:=j7
   exact abr ab
  ·refine abq ?_ fun m bZ e=>j7 ⟨m,bZ,e⟩
   cases o<;>first | (simp [ba];done) | exact absurd ⟨_,_,rfl⟩ j7 | (simp [ba,eT] at ab;done) | skip
   all_goals (simp only [ba] at ab ⊢;split at ab<;>simp_all [eT])
theorem Ny {s s1:ae} {o:bR} (ab:eT (ba o)=true) (h:jf gl D s o=some s1):s1.heap=s.heap:=by
 have:=Nx (gl:=gl) (D:=D) (env:=s.env) (H:=s.heap) (H':=s.heap) ab
 rw [show (⟨s.env,s.heap⟩:ae)=s from rfl,h] at this
 simp only [Option.map_some,Option.some.injEq] at this
 rw [this];rfl
end
end AM
/-! Operations that do not meet may be exchanged: the exchange. -/
namespace AM
open Go
section
variable {P:Program} {gl:aR} {D:cv} {env env2:Env} {H H':List aM}
def tG (X:Option ae) (K:ae→Prop):Prop:=match X with | some s'=>K s' | none=>False
theorem pr {W:List Nat} {k:Nat} {X Y:Option ae} {K K2:ae→Prop} (h:iw W k env env2 X Y) (cW:∀us H',iv W k env us→K ⟨df env us,H'⟩→K2 ⟨df env2 us,H'⟩)
  (ai:tG X K):tG Y K2∧∃us H',iv W k env us∧K ⟨df env us,H'⟩:=by
 obtain ⟨gr,R,aa,al⟩:=h
 subst aa al
 cases gr with
 | none=>exact ai.elim
 | some p =>
  obtain ⟨us,H1⟩:=p
  exact ⟨cW us H1 (R _ rfl) ai,us,H1,R _ rfl,ai⟩
theorem abt {W:List Nat} {k:Nat} {f:Nat} {xs:List AV} {X Y:AV→List aM→Option ae} {K K2:ae→Prop} {Z:List aM→Prop} (h:∀r H',iw W k env env2 (X r H') (Y r H')) (cW:∀us H',iv W k env us→K ⟨df env us,H'⟩→K2 ⟨df env2 us,H'⟩)
  (ai:jJ P gl f xs H fun r H'=>Z H'∧tG (X r H') K):(jJ P gl f xs H fun r H'=>Z H'∧tG (Y r H') K2)∧∃us H',iv W k env us∧K ⟨df env us,H'⟩:=by
 refine ⟨ai.mono fun r H' bc=>⟨bc.1,(pr (h r H') cW bc.2).1⟩,?_⟩
 obtain ⟨r,H',bc⟩:=ai.2
 exact (pr (h r H') cW bc.2).2
theorem y8 {W:List Nat} {k:Nat} {f:Nat} {xs:List AV} {X Y:AV→List aM→Option ae} {K K2:ae→Prop} (h:∀r H',iw W k env env2 (X r H') (Y r H')) (cW:∀us H',iv W k env us→K ⟨df env us,H'⟩→K2 ⟨df env2 us,H'⟩)
  (ai:jJ P gl f xs H fun r H'=>tG (X r H') K):(jJ P gl f xs H fun r H'=>tG (Y r H') K2)∧∃us H',iv W k env us∧K ⟨df env us,H'⟩:=by
 refine ⟨ai.mono fun r H' bc=>(pr (h r H') cW bc).1,?_⟩
 obtain ⟨r,H',bc⟩:=ai.2
 exact (pr (h r H') cW bc).2
theorem Nz {o:bR} (h:ba o=6):∃d f xs,o=.g1 d f xs:=by
 cases o
 case g1 d f xs=>exact ⟨d,f,xs,rfl⟩
 case len d m y=>simp only [ba] at h;split at h<;>cases h
 case on m bZ =>
  cases bZ<;>simp only [ba] at h
  all_goals first | (cases h;done) | (repeat' (first | (cases h;done) | split at h))
 all_goals cases h
theorem rU {o:bR} (ab:qy (ba o)=true) (h:Alike o env env2) {K K2:ae→Prop} (cW:∀us H',iv (cE o) (ba o) env us→K ⟨df env us,H'⟩→K2 ⟨df env2 us,H'⟩)
  (bp:b0 P gl D ⟨env,H⟩ K o):b0 P gl D ⟨env2,H⟩ K2 o∧∃us H',iv (cE o) (ba o) env us∧K ⟨df env us,H'⟩:=by
 have kG:∀d,(∀u,d=some u→fT o=some u)→∀(r:AV) (H':List aM),iw (cE o) (ba o) env env2 ((⟨env,H'⟩:ae).ef d r) ((⟨env2,H'⟩:ae).ef d r) :=
  fun d aw r H'=>Dv fun u hu=>⟨h.wr u (dg (aw u hu)),dg (aw u hu)⟩
 cases o
 case aQ d f xs =>
  have he:=rQ (gl:=gl) (ys:=xs) (env:=env) (env2:=env2) fun t aF=>h.rd t (by simpa [cl] using aF)
  simp only [b0] at bp ⊢
  rw [he]
  cases ax:dQ gl env xs with
  | none=>rw [ax] at bp;exact bp.elim
  | some vs =>
   rw [ax] at bp
   simp only at bp ⊢
   obtain ⟨R,aa⟩:=bp
   cases tF:D f (vs.map AV.aL) with
   | none=>rw [tF] at aa;exact aa.elim
   | some r =>
    rw [tF] at aa
    simp only at aa ⊢
    obtain ⟨an,ar⟩:=pr (kG d (fun u hu=>by simpa [fT] using hu) r H) cW aa.2
    exact ⟨⟨R,aa.1,an⟩,ar⟩
 case bF d f xs =>
  have he:=rQ (gl:=gl) (ys:=xs) (env:=env) (env2:=env2) fun t aF=>h.rd t (by simpa [cl] using aF)
  simp only [b0] at bp ⊢
  rw [he]
  cases ax:dQ gl env xs with
  | none=>rw [ax] at bp;exact bp.elim
  | some vs =>
   rw [ax] at bp
   exact y8 (kG d fun u hu=>by simpa [fT] using hu) cW bp
 case g1 d f xs =>
  have he:=rQ (gl:=gl) (ys:=xs) (env:=env) (env2:=env2) fun t aF=>h.rd t (by simpa [cl] using aF)
  simp only [b0] at bp ⊢
  rw [he]
  cases ax:dQ gl env xs with
  | none=>rw [ax] at bp;exact bp.elim
  | some vs =>
   rw [ax] at bp
   exact abt (Z:=fun H'=>∃n,H'=H++List.replicate n .dead) (kG d fun u hu=>by simpa [fT] using hu) cW bp
 case eU d x xs =>
  have he:=rQ (gl:=gl) (ys:=xs) (env:=env) (env2:=env2) fun t aF=>h.rd t (by simp [cl,aF])
  have ai:=h6 (gl:=gl) (y:=x) (env:=env) (env2:=env2) fun t aF=>h.rd t (by simp [cl,aF])
  simp only [b0] at bp ⊢
  rw [he,ai]
  split at bp
  ·exact y8 (kG d fun u hu=>by simpa [fT] using hu) cW bp
  ·exact bp.elim
 case hK d f u xs =>
  have he:=rQ (gl:=gl) (ys:=xs) (env:=env) (env2:=env2) fun t aF=>h.rd t (by simp [cl,aF])
  have hu:=h.rd u (by simp [cl])
  simp only [b0] at bp ⊢
  rw [he]
  rcases kI hu with e | ⟨cs,cG,aB,aI⟩
  ·rw [e]
   split at bp
   ·rename_i bB sz ys us aK ax
    refine y8 (fun r H'=>?_) cW bp
    have DA:c9 env u=true:=by simp [c9,aK]
    cases d with
    | none =>
     refine ⟨some ([(u,.v (.list none sz ys))],H'),?_,rfl,rfl⟩
     intro p ao;cases ao
     exact ⟨by simp [cE,my,fT],by simp [bU.dA],by simpa using fun _=>DA,by simp [bU.eJ],.inl (by simp)⟩
    | some d =>
     simp only [ae.ef,ae.put]
     have NA:∀DB:Env,c9 (DB.ins u (.v (.list none sz ys))) d=if d=u then true else c9 DB d:=by
      intro DB
      by_cases e:d=u
      ·subst e;simp [c9,Env.fm]
      ·simp only [e,if_false];exact oe e
     rw [NA,NA,oh (h.wr d (dg rfl))]
     by_cases cq:(if d=u then true else c9 env d)=true
     ·rw [if_pos cq,if_pos cq]
      refine ⟨some ([(u,.v (.list none sz ys)),(d,.v r)],H'),?_,rfl,rfl⟩
      intro p ao;cases ao
      refine ⟨by simp [cE,my,fT],?_,?_,?_,.inr ?_⟩
      ·intro p ao;simp at ao;rcases ao with rfl | rfl<;>simp [bU.dA]
      ·intro p ao _;simp at ao
       rcases ao with rfl | rfl
       ·exact DA
       ·by_cases e:d=u
        ·subst e;exact DA
        ·simpa [e] using cq
      ·intro p ao;simp at ao;rcases ao with rfl | rfl<;>simp [bU.eJ]
      ·intro p ao;simp at ao;rcases ao with rfl | rfl<;>simp [bU.eJ,bU.dA]
     ·rw [if_neg cq,if_neg cq];exact c4
   ·exact y8 (kG d fun u hu=>by simpa [fT] using hu) cW bp
   ·exact bp.elim
  ·rw [aB] at bp
   simp only at bp
 case hs d it =>
  have av:=h6 (gl:=gl) (y:=it) (env:=env) (env2:=env2) fun t aF=>h.rd t (by simpa [cl] using aF)
  have ao:∀(y:AV) (H':List aM),iw (cE (.hs d it)) (ba (.hs d it)) env env2 ((⟨env,H'⟩:ae).put d y) ((⟨env2,H'⟩:ae).put d y):=fun y H'=>hl (h.wr d (dg rfl)) (dg rfl)
  simp only [b0] at bp ⊢
  rw [av]
  split at bp
  ·rename_i id m since seen es _
   cases es with
   | nil=>exact pr (ao _ _) cW bp
   | cons bB es =>
    simp only at bp ⊢
    exact ⟨fun e he=>(pr (ao _ _) cW (bp e he)).1,(pr (ao _ _) cW (bp bB (by simp))).2⟩
  ·exact bp.elim
 case bad d=>cases ab
 all_goals
  exact pr (rR ⟨(fun e=>by rw [e] at ab;cases ab),(fun e=>by obtain ⟨_,_,_,h⟩:=Nz e;cases h),(fun e=>by rw [e] at ab;cases ab)⟩ h) cW bp
end
end AM
/-! Operations that do not meet may be exchanged: the theorem. -/
namespace AM
open Go
def y9 (a b:List Nat):Bool:=a.all fun t=>!b.contains t
theorem za {a b:List Nat} (h:y9 a b=true) {t:Nat} (aZ:t∈a):t∉b:=by
 unfold y9 at h
 rw [List.all_eq_true] at h
 have:=h t aZ
 simpa using this
def qz (i j:Nat):Bool:=(i==2&&(j==1||j==3||j==7))||(i==3&&(j==3||j==7))
def lf (i j:Nat):Bool:=((eT i&&qy j)||(eT j&&qy i))&&!qz i j&&!qz j i
section
variable {P:Program} {gl:aR} {D:cv} {env env2:Env} {H H':List aM}
theorem oi {us:List (Nat×bU)}:∀{env:Env} {t:Nat},(∀p∈us,p.1≠t)→(df env us).get t=env.get t:=by
 induction us with
 | nil=>intro env t _;rfl
 | cons p us ih =>
  intro env t h
  obtain ⟨u,x⟩:=p
  simp only [df]
  rw [ih fun p ao=>h p (by simp [ao]),lb (Ne.symm (h (u,x) (by simp)))]
theorem NB {us:List (Nat×bU)}:∀{env:Env},env.cR→(df env us).cR:=by
 induction us with
 | nil=>intro env h;exact h
 | cons p us ih=>intro env h;exact ih (Env.cR.ins h p.1 p.2)
theorem lg {t:Nat} (h:env2.get t=env.get t):cH env2 t=cH env t:=by unfold cH;rw [h]
theorem abu {d:Nat} {x:bU} {o:bR} (aA:d∉cl o):qx P gl D (env.ins d x) o↔qx P gl D env o:=by
 cases o<;>first | exact Iff.rfl | skip
 case aQ d f xs=>simp only [qx,y4 (ys:=xs) (by simpa [cl] using aA)]
theorem zb {W:List Nat} {k:Nat} {o:bR} (ab:eT (ba o)=true) (ao:lf (ba o) k=true) (hC:∀t∈W,t∉cl o∧t∉cE o):∀(us:List (Nat×bU)) (env:Env) (H:List aM),env.cR→iv W k env us →
  jf gl D ⟨df env us,H'⟩ o=(jf gl D ⟨env,H⟩ o).map (fun s=>⟨df s.env us,H'⟩)∧(qx P gl D (df env us) o↔qx P gl D env o)
 | [],env,H,_,_=>by
  refine ⟨?_,Iff.rfl⟩
  exact Nx ab
 | (t,x)::us,env,H,aS,hu=>by
  have hm:=hu.mem (t,x) (by simp)
  obtain ⟨R,aa⟩:=hC t hm
  have dk:ba o=2→x.eJ=false∧∀u off,env.get t≠some (.a u off):=by
   intro h
   rw [h] at ao
   have fh:k≠1:=by rintro rfl;simp [lf,qz] at ao
   refine ⟨?_,?_⟩
   ·cases ai:x.eJ with
    | false=>rfl
    | true=>exact absurd (hu.dn (t,x) (by simp) ai) fh
   ·intro u off aK
    cases ai:x.dA with
    | false=>have:=hu.put (t,x) (by simp) ai;simp [c9,aK] at this
    | true=>have:=(hu.box (t,x) (by simp) ai).2;simp [eJ,aK] at this
  have fZ:ba o=3∨ba o=7→x.dA=false∧∀cs,env.get t≠some (.b cs):=by
   intro h
   have ga:k≠2:=by rintro rfl;rcases h with h | h<;>(rw [h] at ao;simp [lf,qz] at ao)
   have ai:x.dA=false:=by
    cases ai:x.dA with
    | false=>rfl
    | true=>exact absurd (hu.box (t,x) (by simp) ai).1 ga
   refine ⟨ai,fun cs aK=>?_⟩
   have:=hu.put (t,x) (by simp) ai;simp [c9,aK] at this
  have g4:iv W k (env.ins t x) us:=by
   rcases hu.one with h | h
   ·have:us=[]:=by simp at h;exact h
    subst this
    exact ⟨by simp,by simp,by simp,by simp,.inl (by simp)⟩
   ·have ai:=h (t,x) (by simp)
    have wk:∃y,x=.v y:=by
     cases x with
     | v y=>exact ⟨y,rfl⟩
     | a u off=>simp [bU.eJ] at ai
     | b cs=>simp [bU.dA] at ai
    obtain ⟨y,rfl⟩:=wk
    refine ⟨fun p ao=>hu.mem p (by simp [ao]),fun p ao ah=>?_,fun p ao ah=>?_,fun p ao=>hu.dn p (by simp [ao]),.inr fun p ao=>h p (by simp [ao])⟩
    ·have:=(h p (by simp [ao])).2;rw [this] at ah;cases ah
    ·by_cases e:p.1=t
     ·rw [e];simp [c9,Env.fm]
     ·rw [oe e];exact hu.put p (by simp [ao]) ah
  obtain ⟨i1,i2⟩:=zb ab ao hC us (env.ins t x) H' (Env.cR.ins aS t x) g4
  simp only [df]
  refine ⟨?_,i2.trans (abu R)⟩
  rw [i1,abl (H:=H) aS ab R aa dk fZ,Option.map_map]
  rfl
theorem NC {o:bR} {s s1:ae} (ab:eT (ba o)=true) (h:jf gl D s o=some s1):(∀t,t∉cE o→cH s1.env t=cH s.env t) ∧
  (ba o≠3→∃us,iv (cE o) (ba o) s.env us∧s1.env=df s.env us):=by
 have abv:Alike o s.env s.env:=⟨fun _ _=>rfl,fun _ _=>rfl,fun _ _ _=>rfl,fun _ _ _=>Iff.rfl⟩
 by_cases al:ba o=3
 ·refine ⟨?_,fun h=>absurd al h⟩
  -- a write of a box
  obtain ⟨m,bZ,rfl⟩:∃m bZ,o=.on m bZ:=by
   cases o<;>first | exact ⟨_,_,rfl⟩ | (simp [ba] at al;done) | skip
   all_goals (simp only [ba] at al;split at al<;>cases al)
  have hm:m=1∨m=2:=by
   cases bZ<;>simp only [ba] at al
   all_goals first | (cases al;done) | skip
   all_goals (split at al<;>first | (cases al;done) | skip)
   all_goals (first | (split at al<;>first | (cases al;done) | assumption | (split at al<;>cases al)) | skip)
  have cD:au gl s (.on m bZ)=some s1:=h
  by_cases fh:eg s.env (ej bZ)=m
  ·rw [h4 fh] at cD
   have DC:∀(s:ae) (t off:Nat) (vs:List AV) (s2:ae),aW s vs (.cV t off)=some s2→∀u,cH s2.env u=cH s.env u:=by
    intro s t off vs s2 hw u
    simp only [aW] at hw
    split at hw
    ·rename_i cs aK
     split at hw
     ·simp at hw;subst hw
      unfold cH
      simp only [Env.fm]
      by_cases e:u=t
      ·subst e;simp [aK]
      ·simp [e]
     ·cases hw
    ·cases hw
   have ng:∀(s:ae) (t:Nat) (y:AV) (s2:ae),s.put t y=some s2→∀u,u≠t→cH s2.env u=cH s.env u:=by
    intro s t y s2 ao u hu
    simp only [ae.put] at ao
    split at ao
    ·simp at ao;subst ao;exact lg (lb hu)
    ·cases ao
   obtain ⟨t,off,aZ⟩:=qu (gl:=gl) (env:=s.env) (y:=ej bZ) (by rw [fh];exact hm)
   intro u hu
   cases bZ<;>simp only [ba] at al<;>simp only [ej] at aZ
   case gO d2 y e sz =>
    have vk:u≠d2:=fun e=>hu (by simp [cE,fT,e])
    simp only [au,aZ,Option.bind_some] at cD
    obtain ⟨cs,_,cD⟩:=bind_some cD
    split at cD
    ·obtain ⟨s2,bn,cw⟩:=bind_some cD
     rw [ng _ _ _ _ cw u vk,DC _ _ _ _ _ bn u]
    ·exact ng _ _ _ _ cD u vk
    ·cases cD
   case st n y v =>
    simp only [au,aZ,Option.bind_some] at cD
    obtain ⟨x,_,cD⟩:=bind_some cD
    split at cD
    ·exact DC _ _ _ _ _ cD u
    ·cases cD
   case fW y v =>
    have abw:u≠v:=fun e=>hu (by simp [cE,fT,my,e])
    simp only [au,aZ,Option.bind_some] at cD
    split at cD
    ·obtain ⟨s2,bn,cw⟩:=bind_some cD
     rw [DC _ _ _ _ _ cw u,ng _ _ _ _ bn u abw]
    ·cases cD
   all_goals (first | (cases al;done) | (repeat' (first | (cases al;done) | split at al)))
  ·rw [h5 fh] at cD;cases cD
 ·have key:∃us,iv (cE o) (ba o) s.env us∧s1.env=df s.env us:=by
   by_cases af:∃d f xs,o=.aQ d f xs
   ·obtain ⟨d,f,xs,rfl⟩:=af
    simp only [jf] at h
    obtain ⟨vs,_,h⟩:=bind_some h
    split at h
    ·obtain ⟨r,_,h⟩:=bind_some h
     have:=Dv (W:=cE (.aQ d f xs)) (k:=0) (env:=s.env) (env2:=s.env) (H:=s.heap) (t:=d) (y:=r) (fun u hu=>⟨rfl,dg (by simpa [fT] using hu)⟩)
     obtain ⟨gr,R,aa,_⟩:=this
     rw [show (⟨s.env,s.heap⟩:ae)=s from rfl,h] at aa
     cases gr with
     | none=>cases aa
     | some p=>simp at aa;exact ⟨p.1,R p rfl,by rw [aa];rfl⟩
    ·cases h
   ·have R:jf gl D s o=au gl s o:=by cases o<;>first | rfl | exact absurd ⟨_,_,_,rfl⟩ af
    rw [R] at h
    obtain ⟨gr,R,aa,_⟩:=rR (gl:=gl) (H:=s.heap) ⟨al,(fun e=>by rw [e] at ab;cases ab),(fun e=>by rw [e] at ab;cases ab)⟩ abv
    rw [show (⟨s.env,s.heap⟩:ae)=s from rfl,h] at aa
    cases gr with
    | none=>cases aa
    | some p=>simp at aa;exact ⟨p.1,R p rfl,by rw [aa];rfl⟩
  refine ⟨fun t aF=>?_,fun _=>key⟩
  obtain ⟨us,R,aa⟩:=key
  rw [aa]
  exact lg (oi fun p ao e=>aF (e▸R.mem p ao))
theorem abx {t:Nat} (h:c9 env t=true):∀cs,env.get t≠some (.b cs):=fun cs aK=>by simp [c9,aK] at h
theorem aby {t:Nat} (h:c9 env t=true):∀u off,env.get t≠some (.a u off):=fun u off aK=>by simp [c9,aK] at h
theorem abz {t:Nat} (h:eJ env t=false):∀u off,env.get t≠some (.a u off):=fun u off aK=>by simp [eJ,aK] at h
theorem ND {W:List Nat} {k:Nat} (ab:k≠1):∀(us:List (Nat×bU)) (env:Env),env.cR→iv W k env us→∀t,hV (df env us) t=hV env t
 | [],_,_,_,_=>rfl
 | (u,x)::us,env,aS,hu,t=>by
  have ai:x.eJ=false:=by
   cases ai:x.eJ with
   | false=>rfl
   | true=>exact absurd (hu.dn (u,x) (by simp) ai) ab
  have aE:∀v off,env.get u≠some (.a v off):=by
   cases ah:x.dA with
   | false=>exact aby (hu.put (u,x) (by simp) ah)
   | true=>exact abz (hu.box (u,x) (by simp) ah).2
  have g4:iv W k (env.ins u x) us:=by
   rcases hu.one with h | h
   ·have:us=[]:=by simp at h;exact h
    subst this
    exact ⟨by simp,by simp,by simp,by simp,.inl (by simp)⟩
   ·have ai:=h (u,x) (by simp)
    have wk:∃y,x=.v y:=by
     cases x with
     | v y=>exact ⟨y,rfl⟩
     | a u off=>simp [bU.eJ] at ai
     | b cs=>simp [bU.dA] at ai
    obtain ⟨y,rfl⟩:=wk
    refine ⟨fun p ao=>hu.mem p (by simp [ao]),fun p ao ah=>?_,fun p ao ah=>?_,fun p ao=>hu.dn p (by simp [ao]),.inr fun p ao=>h p (by simp [ao])⟩
    ·have:=(h p (by simp [ao])).2;rw [this] at ah;cases ah
    ·by_cases e:p.1=u
     ·rw [e];simp [c9,Env.fm]
     ·rw [oe e];exact hu.put p (by simp [ao]) ah
  simp only [df]
  rw [ND ab us (env.ins u x) (Env.cR.ins aS u x) g4 t,Nn ai aE aS]
theorem NF {W:List Nat} {k:Nat} (ab:k≠2):∀(us:List (Nat×bU)) (env:Env),iv W k env us→∀t cs,(df env us).get t=some (.b cs)↔env.get t=some (.b cs)
 | [],_,_,_,_=>Iff.rfl
 | (u,x)::us,env,hu,t,cs=>by
  have ai:x.dA=false:=by
   cases ai:x.dA with
   | false=>rfl
   | true=>exact absurd (hu.box (u,x) (by simp) ai).1 ab
  have aE:=abx (hu.put (u,x) (by simp) ai)
  have g4:iv W k (env.ins u x) us:=by
   rcases hu.one with h | h
   ·have:us=[]:=by simp at h;exact h
    subst this
    exact ⟨by simp,by simp,by simp,by simp,.inl (by simp)⟩
   ·have ai:=h (u,x) (by simp)
    have wk:∃y,x=.v y:=by
     cases x with
     | v y=>exact ⟨y,rfl⟩
     | a u off=>simp [bU.eJ] at ai
     | b cs=>simp [bU.dA] at ai
    obtain ⟨y,rfl⟩:=wk
    refine ⟨fun p ao=>hu.mem p (by simp [ao]),fun p ao ah=>?_,fun p ao ah=>?_,fun p ao=>hu.dn p (by simp [ao]),.inr fun p ao=>h p (by simp [ao])⟩
    ·have:=(h p (by simp [ao])).2;rw [this] at ah;cases ah
    ·by_cases e:p.1=u
     ·rw [e];simp [c9,Env.fm]
     ·rw [oe e];exact hu.put p (by simp [ao]) ah
  simp only [df]
  rw [NF ab us (env.ins u x) g4 t cs,Env.fm]
  by_cases e:t=u
  ·subst e
   simp only [if_true,Option.some.injEq]
   constructor
   ·rintro rfl;simp [bU.dA] at ai
   ·intro h;exact absurd h (aE cs)
  ·simp [e]
structure rV (a b:bR):Prop where
 nq:∀t∈cE a,t∉cl b∧t∉cE b
 oj:∀t∈cE b,t∉cl a∧t∉cE a
 ok:lf (ba a) (ba b)=true
theorem NG {a b:bR} {s s1:ae} (aS:s.env.cR) (aZ:eT (ba a)=true) (_hb:qy (ba b)=true) (h:rV a b) (he:jf gl D s a=some s1):Alike b s1.env s.env∧Alike b s.env s1.env:=by
 obtain ⟨v1,v2⟩:=NC aZ he
 have ax:∀t,t∈cl b∨t∈cE b→cH s1.env t=cH s.env t:=fun t aF=>v1 t fun hw=>by
  obtain ⟨an,ar⟩:=h.nq t hw
  rcases aF with aF | aF
  ·exact an aF
  ·exact ar aF
 have NH:ba b=2→∀t,hV s1.env t=hV s.env t:=by
  intro fG t
  have cq:=h.ok
  rw [fG] at cq
  have al:ba a≠3:=fun e=>by rw [e] at cq;simp [lf,qz] at cq
  have R:ba a≠1:=fun e=>by rw [e] at cq;simp [lf,qz] at cq
  obtain ⟨us,an,ar⟩:=v2 al
  rw [ar];exact ND R us s.env aS an t
 have NI:ba b=7→∀t cs,s1.env.get t=some (.b cs)↔s.env.get t=some (.b cs):=by
  intro abA t cs
  have cq:=h.ok
  rw [abA] at cq
  have al:ba a≠3:=fun e=>by rw [e] at cq;simp [lf,qz] at cq
  have aa:ba a≠2:=fun e=>by rw [e] at cq;simp [lf,qz] at cq
  obtain ⟨us,an,ar⟩:=v2 al
  rw [ar];exact NF aa us s.env an t cs
 exact ⟨⟨fun t aF=>(ax t (.inl aF)).symm,fun t aF=>(ax t (.inr aF)).symm,fun e t _=>(NH e t).symm,fun e t cs=>NI e t cs⟩,
  ⟨fun t aF=>ax t (.inl aF),fun t aF=>ax t (.inr aF),fun e t _=>NH e t,fun e t cs=>(NI e t cs).symm⟩⟩
theorem NJ {W:List Nat} {k:Nat} {us:List (Nat×bU)} (h:iv W k env us) (ax:∀t∈W,cH env2 t=cH env t):iv W k env2 us :=
 ⟨h.mem,fun p ao ah=>⟨(h.box p ao ah).1,by rw [Np (ax _ (h.mem p ao))];exact (h.box p ao ah).2⟩,fun p ao ah=>by rw [oh (ax _ (h.mem p ao))];exact h.put p ao ah,h.dn,h.one⟩
theorem abB {a b:bR} {s:ae} {K:ae→Prop} (aS:s.env.cR) (aZ:eT (ba a)=true) (ah:qy (ba b)=true) (h:rV a b) (bp:b0 P gl D s (fun s1=>b0 P gl D s1 K b) a) :
  b0 P gl D s (fun s1=>b0 P gl D s1 K a) b:=by
 obtain ⟨tp,s1,he,bp⟩:=(rS (.inl aZ)).1 bp
 obtain ⟨DD,NK⟩:=NG aS aZ ah h he
 have bc:=Ny aZ he
 have abC:b0 P gl D ⟨s1.env,s.heap⟩ K b:=by rw [←bc];exact bp
 refine (rU (K2:=fun s1=>b0 P gl D s1 K a) ah DD (fun us H' hu cW=>?_) abC).1
 have rW:=NJ hu DD.wr
 obtain ⟨an,ar⟩:=zb (P:=P) (gl:=gl) (D:=D) (H':=H') aZ h.ok h.oj us s.env s.heap aS rW
 refine (rS (.inl aZ)).2 ⟨ar.2 tp,⟨df s1.env us,H'⟩,?_,cW⟩
 rw [an,show (⟨s.env,s.heap⟩:ae)=s from rfl,he];rfl
theorem abD {a b:bR} {s:ae} {K:ae→Prop} (aS:s.env.cR) (aZ:eT (ba a)=true) (ah:qy (ba b)=true) (h:rV a b) (bp:b0 P gl D s (fun s1=>b0 P gl D s1 K a) b) :
  b0 P gl D s (fun s1=>b0 P gl D s1 K b) a:=by
 have iK:Alike b s.env s.env:=⟨fun _ _=>rfl,fun _ _=>rfl,fun _ _ _=>rfl,fun _ _ _=>Iff.rfl⟩
 have rX:b0 P gl D ⟨s.env,s.heap⟩ (fun s1=>b0 P gl D s1 K a) b:=bp
 obtain ⟨NL,j8,rW,wm⟩:=(rU (K2:=fun _=>True) ah iK (fun _ _ _ _=>trivial) rX).2
 obtain ⟨aG,aJ⟩:=zb (P:=P) (gl:=gl) (D:=D) (H':=j8) aZ h.ok h.oj NL s.env s.heap aS rW
 obtain ⟨tp,s2,zc,_⟩:=(rS (.inl aZ)).1 wm
 rw [aG,show (⟨s.env,s.heap⟩:ae)=s from rfl,Option.map_eq_some_iff] at zc
 obtain ⟨s1,he,_⟩:=zc
 obtain ⟨DD,NK⟩:=NG aS aZ ah h he
 have bc:=Ny aZ he
 refine (rS (.inl aZ)).2 ⟨aJ.1 tp,s1,he,?_⟩
 have:b0 P gl D ⟨s1.env,s.heap⟩ K b:=by
  refine (rU (K2:=K) ah NK (fun us H' hu cW=>?_) rX).1
  obtain ⟨an,ar⟩:=zb (P:=P) (gl:=gl) (D:=D) (H':=H') aZ h.ok h.oj us s.env s.heap aS hu
  obtain ⟨_,lN,wo,DE⟩:=(rS (.inl aZ)).1 cW
  rw [an,show (⟨s.env,s.heap⟩:ae)=s from rfl,he] at wo
  simp at wo
  rw [wo];exact DE
 rw [←bc] at this;exact this
theorem rV.symm {a b:bR} (h:rV a b):rV b a:=⟨h.oj,h.nq,by
 have:=h.ok
 unfold lf at this ⊢
 simp only [Bool.and_eq_true,Bool.or_eq_true] at this ⊢
 exact ⟨⟨this.1.1.symm,this.2⟩,this.1.2⟩⟩
theorem swap {a b:bR} {s:ae} {K:ae→Prop} (aS:s.env.cR) (h:rV a b) (bp:b0 P gl D s (fun s1=>b0 P gl D s1 K b) a):b0 P gl D s (fun s1=>b0 P gl D s1 K a) b:=by
 have cq:=h.ok
 simp only [lf,Bool.and_eq_true,Bool.or_eq_true] at cq
 rcases cq.1.1 with ⟨R,aa⟩ | ⟨R,aa⟩
 ·exact abB aS R aa h bp
 ·exact abD aS R aa h.symm bp
end
end AM
/-! Operations that only read the heap may be exchanged; guards. -/
namespace AM
open Go
section
variable {P:Program} {gl:aR} {D:cv} {env env2:Env} {H H':List aM}
theorem zd:∀(us vs:List (Nat×bU)) (env:Env),(∀p∈us,∀q∈vs,p.1≠q.1)→df (df env us) vs=df (df env vs) us:=by
 have one:∀(vs:List (Nat×bU)) (env:Env) (t:Nat) (x:bU),(∀q∈vs,t≠q.1)→df (env.ins t x) vs=(df env vs).ins t x:=by
  intro vs
  induction vs with
  | nil=>intro env t x _;rfl
  | cons q vs ih =>
   intro env t x h
   obtain ⟨u,y⟩:=q
   simp only [df]
   rw [←ih (env.ins u y) t x fun q bL=>h q (by simp [bL]),Env.y3 _ _ _ (h (u,y) (by simp))]
 intro us
 induction us with
 | nil=>intro vs env _;rfl
 | cons p us ih =>
  intro vs env h
  obtain ⟨t,x⟩:=p
  simp only [df]
  rw [ih vs (env.ins t x) fun p ao=>h p (by simp [ao]),one vs env t x fun q bL=>h (t,x) (by simp) q bL]
theorem wq {n id:Nat}:(H++List.replicate n .dead)[id]?=H[id]?∨(H[id]?=none∧(H++List.replicate n .dead)[id]?=some .dead):=by
 by_cases h:id<H.length
 ·left;rw [List.getElem?_append_left h]
 ·rw [List.getElem?_append_right (by omega),List.getElem?_eq_none (show H.length≤id by omega)]
  by_cases aa:id - H.length<n
  ·right;simp [aa]
  ·left;simp [aa]
theorem abE {n m:Nat} {p:iD}:aV ⟨env,H++List.replicate n .dead⟩ m p=aV ⟨env,H⟩ m p:=by
 cases p with
 | cV t off=>rfl
 | fl cs=>rfl
 | ao id off =>
  simp only [aV]
  rcases wq (H:=H) (n:=n) (id:=id) with h | ⟨R,aa⟩
  ·rw [h]
  ·rw [R,aa]
theorem NM {o:bR} (h:ba o=5):(∃d y,o=.len d 2 y)∨(∃az d m k z ok,o=.look az d m k z ok)∨(∃d it,o=.iU d it)∨∃d y n ag,o=.on 4 (.ak d y n ag):=by
 cases o
 case len d m y =>
  simp only [ba] at h
  split at h
  ·rename_i hm;subst hm;exact .inl ⟨_,_,rfl⟩
  ·cases h
 case look=>exact .inr (.inl ⟨_,_,_,_,_,_,rfl⟩)
 case iU=>exact .inr (.inr (.inl ⟨_,_,rfl⟩))
 case on m bZ =>
  cases bZ<;>simp only [ba] at h
  case ak d y n ag =>
   split at h
   ·cases h
   ·split at h
    ·rename_i hm;subst hm;exact .inr (.inr (.inr ⟨_,_,_,_,rfl⟩))
    ·split at h<;>cases h
  all_goals first | (cases h;done) | (repeat' (first | (cases h;done) | split at h))
 all_goals cases h
theorem DF {n:Nat} {o:bR} (ab:ba o=5):au gl ⟨env,H++List.replicate n .dead⟩ o=(au gl ⟨env,H⟩ o).map (jK (H++List.replicate n .dead)):=by
 rcases NM ab with ⟨d,y,rfl⟩ | ⟨az,d,m,k,z,ok,rfl⟩ | ⟨d,it,rfl⟩ | ⟨d,y,k,ag,rfl⟩
 ·simp only [au]
  split
  ·split
   ·exact fL
   ·rfl
  ·split
   ·exact fL
   ·rfl
  ·split
   ·exact fL
   ·rfl
  ·split
   ·exact fL
   ·rfl
  ·split
   ·exact fL
   ·rfl
  ·split
   ·exact fL
   ·rfl
  ·rename_i id _
   simp only [if_true]
   rcases wq (H:=H) (n:=n) (id:=id) with h | ⟨R,aa⟩
   ·rw [h]
    split
    ·exact fL
    ·rfl
   ·rw [R,aa];rfl
  ·rfl
 ·simp only [au]
  split
  ·rename_i id kk _ _
   rcases wq (H:=H) (n:=n) (id:=id) with h | ⟨R,aa⟩
   ·rw [h]
    repeat' (first | exact fL | rfl | split)
   ·rw [R,aa];rfl
  ·repeat' (first | exact fL | rfl | split)
  ·rfl
 ·simp only [au]
  split
  ·rename_i id _
   rcases wq (H:=H) (n:=n) (id:=id) with h | ⟨R,aa⟩
   ·rw [h]
    split
    ·rename_i a7 since seen _
     rcases wq (H:=H) (n:=n) (id:=a7) with cC | ⟨al,aY⟩
     ·rw [cC]
      split
      ·split
       ·exact lR fun v=>fL
       ·rfl
      ·rfl
     ·rw [al,aY];rfl
    ·rfl
   ·rw [R,aa];rfl
  ·rfl
 ·by_cases hm:eg env y=4
  ·rw [h4 (s:=⟨env,H++List.replicate n aM.dead⟩) (o:=.ak d y k ag) hm,h4 (s:=⟨env,H⟩) (o:=.ak d y k ag) hm]
   simp only [au]
   refine lR fun p=>?_
   rw [abE]
   refine lR fun cs=>?_
   split
   ·exact fL
   ·split
    ·exact fL
    ·rfl
  ·rw [h5 (s:=⟨env,H++List.replicate n aM.dead⟩) (o:=.ak d y k ag) hm,h5 (s:=⟨env,H⟩) (o:=.ak d y k ag) hm];rfl
theorem DG {s s1:ae} {o:bR} (ab:ba o=5) (h:au gl s o=some s1):s1.heap=s.heap:=by
 have:=DF (gl:=gl) (env:=s.env) (H:=s.heap) (n:=0) ab
 simp only [List.replicate_zero,List.append_nil] at this
 rw [show (⟨s.env,s.heap⟩:ae)=s from rfl,h] at this
 simp only [Option.map_some,Option.some.injEq] at this
 rw [this];rfl
theorem rY {o:bR} {s:ae} {K:ae→Prop} (ab:ba o=5):b0 P gl D s K o↔∃s1,au gl s o=some s1∧K s1:=by
 refine y6 ?_
 rcases NM ab with ⟨d,y,rfl⟩ | ⟨az,d,m,k,z,ok,rfl⟩ | ⟨d,it,rfl⟩ | ⟨d,y,k,ag,rfl⟩<;>rfl
theorem NN {o:bR} {s:ae} {K:ae→Prop} (ab:ba o=5∨ba o=6) (bp:b0 P gl D s K o):b0 P gl D s (fun s'=>K s'∧∃n,s'.heap=s.heap++List.replicate n .dead) o:=by
 rcases ab with ab | ab
 ·obtain ⟨s1,R,aa⟩:=(rY ab).1 bp
  exact (rY ab).2 ⟨s1,R,aa,0,by simp [DG ab R]⟩
 ·obtain ⟨d,f,xs,rfl⟩:=Nz ab
  simp only [b0] at bp ⊢
  split at bp
  ·refine bp.mono fun r H' bc=>⟨bc.1,?_⟩
   obtain ⟨⟨n,a1⟩,bc⟩:=bc
   cases ao:({ s with heap:=H' }:ae).ef d r with
   | none=>rw [ao] at bc;exact bc.elim
   | some s' =>
    rw [ao] at bc
    refine ⟨bc,n,?_⟩
    have:s'.heap=H':=by
     cases d with
     | none=>simp [ae.ef] at ao;rw [←ao]
     | some d=>simp only [ae.ef,ae.put] at ao;split at ao<;>simp at ao;rw [←ao]
    rw [this,a1]
  ·exact bp.elim
theorem ze {W:List Nat} {k:Nat} {a:bR} {us:List (Nat×bU)} {n:Nat} (aZ:ba a=5) (hC:∀t∈W,t∉cl a∧t∉cE a) (hu:iv W k env us):∃gr:Option (List (Nat×bU)),(∀e7,gr=some e7→∀p∈e7,p.1∈cE a) ∧
  au gl ⟨env,H⟩ a=gr.map (fun e7=>⟨df env e7,H⟩)∧au gl ⟨df env us,H++List.replicate n .dead⟩ a=gr.map fun e7=>⟨df (df env e7) us,H++List.replicate n .dead⟩:=by
 have ck:∀t,t∈cl a∨t∈cE a→∀p∈us,p.1≠t:=fun t aF p ao e=>by
  obtain ⟨an,ar⟩:=hC _ (hu.mem p ao)
  rw [e] at an ar
  rcases aF with aF | aF
  ·exact an aF
  ·exact ar aF
 have abF:Alike a env (df env us):=⟨fun t aF=>lg (oi (ck t (.inl aF))),fun t aF=>lg (oi (ck t (.inr aF))),(fun e=>by rw [aZ] at e;cases e),(fun e=>by rw [aZ] at e;cases e)⟩
 obtain ⟨V,R,aa,al⟩:=rR (gl:=gl) (H:=H) (by rw [aZ];decide) abF
 cases V with
 | none =>
  refine ⟨none,by simp,aa,?_⟩
  rw [DF aZ,al];rfl
 | some p =>
  obtain ⟨e7,H1⟩:=p
  have bc:H1=H:=DG aZ aa
  subst bc
  refine ⟨some e7,fun DH e=>by cases e;exact (R _ rfl).mem,aa,?_⟩
  rw [DF aZ,al]
  simp only [Option.map_some,tC,jK]
  rw [zd us e7 env]
  intro p ao q bL e
  exact (hC _ (hu.mem p ao)).2 (by rw [e];exact (R _ rfl).mem q bL)
theorem NO {a b:bR} {s:ae} {K:ae→Prop} (aZ:ba a=5) (ah:ba b=5∨ba b=6) (ps:∀t∈cE a,t∉cl b∧t∉cE b) (jL:∀t∈cE b,t∉cl a∧t∉cE a) :
  b0 P gl D s (fun s1=>b0 P gl D s1 K b) a↔b0 P gl D s (fun s1=>b0 P gl D s1 K a) b:=by
 have ai:qy (ba b)=true:=by rcases ah with h | h<;>rw [h]<;>rfl
 have iK:Alike b s.env s.env:=⟨fun _ _=>rfl,fun _ _=>rfl,fun _ _ _=>rfl,fun _ _ _=>Iff.rfl⟩
 have DI:∀e7:List (Nat×bU),(∀p∈e7,p.1∈cE a)→Alike b (df s.env e7) s.env∧Alike b s.env (df s.env e7):=by
  intro e7 abG
  have aK:∀t,t∈cl b∨t∈cE b→(df s.env e7).get t=s.env.get t:=fun t aF=>oi fun p ao e=>by
   obtain ⟨an,ar⟩:=ps _ (abG p ao)
   rw [e] at an ar
   rcases aF with aF | aF
   ·exact an aF
   ·exact ar aF
  have aa:ba b≠2:=by rcases ah with h | h<;>rw [h]<;>decide
  have dr:ba b≠7:=by rcases ah with h | h<;>rw [h]<;>decide
  exact ⟨⟨fun t aF=>(lg (aK t (.inl aF))).symm,fun t aF=>(lg (aK t (.inr aF))).symm,fun e=>absurd e aa,fun e=>absurd e dr⟩,
   ⟨fun t aF=>lg (aK t (.inl aF)),fun t aF=>lg (aK t (.inr aF)),fun e=>absurd e aa,fun e=>absurd e dr⟩⟩
 constructor
 ·intro bp
  obtain ⟨s1,he,bp⟩:=(rY aZ).1 bp
  obtain ⟨gr,cr,cX,_⟩:=ze (gl:=gl) (W:=[]) (k:=0) (env:=s.env) (H:=s.heap) (us:=[]) (n:=0) aZ (by simp) ⟨by simp,by simp,by simp,by simp,.inl (by simp)⟩
  rw [show (⟨s.env,s.heap⟩:ae)=s from rfl,he] at cX
  cases gr with
  | none=>cases cX
  | some e7 =>
   simp only [Option.map_some,Option.some.injEq] at cX
   subst cX
   have bp:=NN ah bp
   refine (rU (K2:=fun s1=>b0 P gl D s1 K a) ai (DI e7 (cr e7 rfl)).1 (fun us H' hu cW=>?_) bp).1
   obtain ⟨cW,n,a1⟩:=cW
   simp only at a1
   subst a1
   have rW:=NJ hu (DI e7 (cr e7 rfl)).1.wr
   obtain ⟨wu,_,v2,hn⟩:=ze (gl:=gl) (H:=s.heap) (n:=n) aZ jL rW
   rw [show (⟨s.env,s.heap⟩:ae)=s from rfl,he] at v2
   cases wu with
   | none=>cases v2
   | some DH =>
    simp only [Option.map_some,Option.some.injEq,ae.mk.injEq,and_true] at v2
    refine (rY aZ).2 ⟨_,hn,?_⟩
    show K ⟨df (df s.env DH) us,_⟩
    rw [←v2];exact cW
 ·intro bp
  have bp:=NN ah bp
  have rX:b0 P gl D ⟨s.env,s.heap⟩ (fun s'=>b0 P gl D s' K a∧∃n,s'.heap=s.heap++List.replicate n .dead) b:=bp
  obtain ⟨NL,j8,rW,wm,rZ,mo⟩:=(rU (K2:=fun _=>True) ai iK (fun _ _ _ _=>trivial) rX).2
  simp only at mo
  subst mo
  obtain ⟨s2,zc,_⟩:=(rY aZ).1 wm
  obtain ⟨gr,cr,cX,eX⟩:=ze (gl:=gl) (H:=s.heap) (n:=rZ) aZ jL rW
  rw [zc] at eX
  cases gr with
  | none=>cases eX
  | some e7 =>
   refine (rY aZ).2 ⟨_,cX,?_⟩
   refine (rU (K2:=K) ai (DI e7 (cr e7 rfl)).2 (fun us H' hu cW=>?_) rX).1
   obtain ⟨cW,n,a1⟩:=cW
   simp only at a1
   subst a1
   obtain ⟨lN,wo,DE⟩:=(rY aZ).1 cW
   obtain ⟨wu,_,v2,hn⟩:=ze (gl:=gl) (H:=s.heap) (n:=n) aZ jL hu
   rw [wo] at hn
   cases wu with
   | none=>cases hn
   | some DH =>
    rw [cX] at v2
    simp only [Option.map_some,Option.some.injEq,ae.mk.injEq,and_true] at v2 hn
    subst hn
    rw [v2];exact DE
theorem abH {id:Nat} {CJ ey:Nat} {es es2:List (AV×AV)} (h:H[id]?=some (.map CJ es)) {n:Nat} {p:iD}:aV ⟨env,H.set id (.map ey es2)⟩ n p=aV ⟨env,H⟩ n p:=by
 cases p with
 | cV t off=>rfl
 | fl cs=>rfl
 | ao i off =>
  simp only [aV]
  by_cases e:id=i
  ·subst e
   rw [h,List.getElem?_set_self (List.getElem?_eq_some_iff.1 h).1]
  ·rw [List.getElem?_set_ne e]
theorem abI {az:List Nat} {d:Nat} {m k:aq} {z:AV} {s s1:ae} (h:au gl s (.fX az d m k z)=some s1) (env:Env) (n:Nat) (p:iD):aV ⟨env,s1.heap⟩ n p=aV ⟨env,s.heap⟩ n p:=by
 have ng:∀{t:ae} {y:AV} {s2:ae},t.put d y=some s2→s2.heap=t.heap:=by
  intro t y s2 ao
  simp only [ae.put] at ao
  split at ao
  ·simp at ao;rw [←ao]
  ·cases ao
 simp only [au] at h
 repeat' (first | (cases h;done) | split at h)
 all_goals first
  | (rw [ng h];done)
  | (rw [ng h];exact abH (by assumption))
theorem abJ {d n:Nat} {y:aq} {ag:Bool} (h:∀n p,aV ⟨env,H'⟩ n p=aV ⟨env,H⟩ n p):au gl ⟨env,H'⟩ (.on 4 (.ak d y n ag))=(au gl ⟨env,H⟩ (.on 4 (.ak d y n ag))).map (jK H'):=by
 by_cases hm:eg env y=4
 ·rw [h4 (s:=⟨env,H'⟩) (o:=.ak d y n ag) hm,h4 (s:=⟨env,H⟩) (o:=.ak d y n ag) hm]
  simp only [au]
  refine lR fun p=>?_
  rw [h]
  refine lR fun cs=>?_
  split
  ·exact fL
  ·split
   ·exact fL
   ·rfl
 ·rw [h5 (s:=⟨env,H'⟩) (o:=.ak d y n ag) hm,h5 (s:=⟨env,H⟩) (o:=.ak d y n ag) hm];rfl
theorem abK {d n:Nat} {y:aq} {ag:Bool} {az:List Nat} {ho:Nat} {m k:aq} {z:AV} {s:ae} (ps:∀t∈cE (.on 4 (.ak d y n ag)),t∉cl (.fX az ho m k z)∧t∉cE (.fX az ho m k z)) (jL:∀t∈cE (.fX az ho m k z),t∉cl (.on 4 (.ak d y n ag))∧t∉cE (.on 4 (.ak d y n ag))) :
  ((au gl s (.on 4 (.ak d y n ag))).bind fun s1=>au gl s1 (.fX az ho m k z))=(au gl s (.fX az ho m k z)).bind fun s1=>au gl s1 (.on 4 (.ak d y n ag)):=by
 generalize aZ:bR.on 4 (.ak d y n ag)=a at ps jL ⊢
 generalize ah:bR.fX az ho m k z=b at ps jL ⊢
 have nr:ba a=5:=by rw [←aZ];rfl
 have mA:ba b=4:=by rw [←ah];rfl
 obtain ⟨env,H⟩:=s
 have NP:∀us:List (Nat×bU),(∀p∈us,p.1∈cE b)→Alike a env (df env us):=by
  intro us oW
  have ck:∀t,t∈cl a∨t∈cE a→∀p∈us,p.1≠t:=fun t aF p ao e=>by
   obtain ⟨an,ar⟩:=jL _ (oW p ao)
   rw [e] at an ar
   rcases aF with aF | aF
   ·exact an aF
   ·exact ar aF
  exact ⟨fun t aF=>lg (oi (ck t (.inl aF))),fun t aF=>lg (oi (ck t (.inr aF))),(fun e=>by rw [nr] at e;cases e),(fun e=>by rw [nr] at e;cases e)⟩
 have NQ:∀us:List (Nat×bU),(∀p∈us,p.1∈cE a)→Alike b env (df env us):=by
  intro us oW
  have ck:∀t,t∈cl b∨t∈cE b→∀p∈us,p.1≠t:=fun t aF p ao e=>by
   obtain ⟨an,ar⟩:=ps _ (oW p ao)
   rw [e] at an ar
   rcases aF with aF | aF
   ·exact an aF
   ·exact ar aF
  exact ⟨fun t aF=>lg (oi (ck t (.inl aF))),fun t aF=>lg (oi (ck t (.inr aF))),(fun e=>by rw [mA] at e;cases e),(fun e=>by rw [mA] at e;cases e)⟩
 have abL:Alike a env env:=NP [] (by simp)
 have abM:Alike b env env:=NQ [] (by simp)
 obtain ⟨gr,cr,cX,_⟩:=rR (gl:=gl) (H:=H) (by rw [nr];decide) abL
 obtain ⟨V,v1,v2,_⟩:=rR (gl:=gl) (H:=H) (by rw [mA];decide) abM
 -- a after b
 have dk:∀kJ H',V=some (kJ,H')→au gl ⟨df env kJ,H'⟩ a=(au gl ⟨env,H⟩ a).map fun s=>⟨df s.env kJ,H'⟩:=by
  intro kJ H' e
  obtain ⟨wu,an,ar,aO⟩:=rR (gl:=gl) (H:=H) (by rw [nr];decide) (NP kJ (v1 _ e).mem)
  have Dy:=fun n p=>abI (gl:=gl) (s:=⟨env,H⟩) (s1:=⟨df env kJ,H'⟩) (by rw [ah,v2,e];rfl) (df env kJ) n p
  have:=abJ (gl:=gl) (d:=d) (y:=y) (n:=n) (ag:=ag) (H:=H) (H':=H') Dy
  rw [aZ] at this
  rw [this,aO,ar]
  cases wu with
  | none=>rfl
  | some p =>
   obtain ⟨e7,H1⟩:=p
   simp only [Option.map_some,tC,jK]
   rw [zd kJ e7 env]
   intro p ao q bL e
   exact (jL _ ((v1 _ ‹_›).mem p ao)).2 (by rw [e];exact (an _ rfl).mem q bL)
 have fZ:∀e7 H',gr=some (e7,H')→H'=H∧au gl ⟨df env e7,H⟩ b=(au gl ⟨env,H⟩ b).map fun s=>⟨df s.env e7,s.heap⟩:=by
  intro e7 H' e
  have bc:H'=H:=DG (gl:=gl) (s:=⟨env,H⟩) (s1:=⟨df env e7,H'⟩) nr (by rw [cX,e];rfl)
  refine ⟨bc,?_⟩
  obtain ⟨abN,an,ar,aO⟩:=rR (gl:=gl) (H:=H) (by rw [mA];decide) (NQ e7 (cr _ e).mem)
  rw [aO,ar]
  cases abN with
  | none=>rfl
  | some p =>
   obtain ⟨kJ,H1⟩:=p
   simp only [Option.map_some,tC]
   rw [zd e7 kJ env]
   intro p ao q bL e
   exact (ps _ ((cr _ ‹_›).mem p ao)).2 (by rw [e];exact (an _ rfl).mem q bL)
 cases ld:gr with
 | none =>
  rw [cX,ld]
  simp only [Option.map_none,Option.bind_none]
  cases lS:V with
  | none=>rw [v2,lS];rfl
  | some p =>
   obtain ⟨kJ,H'⟩:=p
   rw [v2,lS]
   simp only [Option.map_some,Option.bind_some,tC]
   rw [dk kJ H' lS,cX,ld];rfl
 | some p =>
  obtain ⟨e7,H1⟩:=p
  obtain ⟨rfl,abO⟩:=fZ e7 H1 ld
  have aB:au gl ⟨env,H1⟩ a=some ⟨df env e7,H1⟩:=by rw [cX,ld];rfl
  rw [aB]
  simp only [Option.bind_some]
  rw [abO]
  cases lS:V with
  | none=>rw [v2,lS];rfl
  | some p =>
   obtain ⟨kJ,H'⟩:=p
   have aI:au gl ⟨env,H1⟩ b=some ⟨df env kJ,H'⟩:=by rw [v2,lS];rfl
   rw [aI]
   simp only [Option.map_some,Option.bind_some]
   rw [dk kJ H' lS,aB]
   simp only [Option.map_some,Option.some.injEq,ae.mk.injEq,and_true]
   refine (zd _ _ _ fun p ao q bL e=>?_)
   exact (jL _ ((v1 _ lS).mem p ao)).2 (by rw [e];exact (cr _ ld).mem q bL)
theorem NR {a b:bR} {s:ae} {K:ae→Prop} (aZ:∀s K,b0 P gl D s K a↔∃s1,au gl s a=some s1∧K s1) (ah:∀s K,b0 P gl D s K b↔∃s1,au gl s b=some s1∧K s1) :
  b0 P gl D s (fun s1=>b0 P gl D s1 K b) a↔∃s2,(au gl s a).bind (fun s1=>au gl s1 b)=some s2∧K s2:=by
 rw [aZ]
 constructor
 ·rintro ⟨s1,R,aa⟩
  obtain ⟨s2,al,aY⟩:=(ah _ _).1 aa
  exact ⟨s2,by rw [R];exact al,aY⟩
 ·rintro ⟨s2,R,aa⟩
  obtain ⟨s1,al,aY⟩:=bind_some R
  exact ⟨s1,al,(ah _ _).2 ⟨s2,aY,aa⟩⟩
theorem NS {d n:Nat} {y:aq} {ag:Bool} {az:List Nat} {ho:Nat} {m k:aq} {z:AV} {s:ae} {K:ae→Prop} (ps:∀t∈cE (.on 4 (.ak d y n ag)),t∉cl (.fX az ho m k z)∧t∉cE (.fX az ho m k z)) (jL:∀t∈cE (.fX az ho m k z),t∉cl (.on 4 (.ak d y n ag))∧t∉cE (.on 4 (.ak d y n ag))) :
  b0 P gl D s (fun s1=>b0 P gl D s1 K (.fX az ho m k z)) (.on 4 (.ak d y n ag))↔b0 P gl D s (fun s1=>b0 P gl D s1 K (.on 4 (.ak d y n ag))) (.fX az ho m k z):=by
 have aZ:∀(s:ae) K,b0 P gl D s K (.on 4 (.ak d y n ag))↔∃s1,au gl s (.on 4 (.ak d y n ag))=some s1∧K s1:=fun s K=>y6 rfl
 have ah:∀(s:ae) K,b0 P gl D s K (.fX az ho m k z)↔∃s1,au gl s (.fX az ho m k z)=some s1∧K s1:=fun s K=>y6 rfl
 rw [NR aZ ah,NR ah aZ,abK ps jL]
end
end AM
/-! Regions that draw their order: guarded operations, and their exchange. -/
namespace AM
open Go
section
variable {P:Program} {gl:aR} {D:cv} {env env2:Env} {H H':List aM}
theorem DJ {s s1:ae} {vs:List AV} {p:iD} (aS:s.env.cR) (h:aW s vs p=some s1):s1.env.cR:=by
 cases p<;>simp only [aW] at h
 ·split at h
  ·split at h
   ·simp at h;subst h;exact Env.cR.ins aS _ _
   ·cases h
  ·cases h
 ·split at h
  ·split at h
   ·simp at h;subst h;exact aS
   ·cases h
  ·split at h
   ·simp at h;subst h;exact aS
   ·cases h
  ·cases h
 ·cases h
theorem DK {s s1:ae} {t:Nat} {y:AV} (aS:s.env.cR) (h:s.put t y=some s1):s1.env.cR:=by
 simp only [ae.put] at h
 split at h
 ·simp at h;subst h;exact Env.cR.ins aS _ _
 ·cases h
theorem abP {o:bR} {s:ae} {K:ae→Prop} (ab:ba o≠9) (aS:s.env.cR) (bp:b0 P gl D s K o) :
  b0 P gl D s (fun s'=>K s'∧s'.env.cR∧∀t,t∉cE o→cH s'.env t=cH s.env t) o∧∃s',K s'∧s'.env.cR∧∀t,t∉cE o→cH s'.env t=cH s.env t:=by
 by_cases al:ba o=3
 ·have DL:eT (ba o)=true:=by rw [al];rfl
  obtain ⟨R,s1,aa,cW⟩:=(rS (.inl DL)).1 bp
  have ax:=(NC DL aa).1
  have NT:s1.env.cR:=by
   obtain ⟨m,bZ,rfl⟩:∃m bZ,o=.on m bZ:=by
    cases o<;>first | exact ⟨_,_,rfl⟩ | (simp [ba] at al;done) | skip
    all_goals (simp only [ba] at al;split at al<;>cases al)
   have cD:au gl s (.on m bZ)=some s1:=aa
   simp only [au] at cD
   split at cD
   ·cases bZ<;>simp only [ba] at al
    case gO d2 y e sz =>
     simp only [au] at cD
     obtain ⟨p,_,cD⟩:=bind_some cD
     obtain ⟨cs,_,cD⟩:=bind_some cD
     split at cD
     ·obtain ⟨s2,bn,cw⟩:=bind_some cD
      exact DK (DJ aS bn) cw
     ·exact DK aS cD
     ·cases cD
    case st n y v =>
     simp only [au] at cD
     obtain ⟨p,_,cD⟩:=bind_some cD
     obtain ⟨x,_,cD⟩:=bind_some cD
     split at cD
     ·exact DJ aS cD
     ·cases cD
    case fW y v =>
     simp only [au] at cD
     obtain ⟨p,_,cD⟩:=bind_some cD
     split at cD
     ·obtain ⟨s2,bn,cw⟩:=bind_some cD
      exact DJ (DK aS bn) cw
     ·cases cD
    all_goals (first | (cases al;done) | (repeat' (first | (cases al;done) | split at al)))
   ·cases cD
  exact ⟨(rS (.inl DL)).2 ⟨R,s1,aa,cW,NT,ax⟩,s1,cW,NT,ax⟩
 ·have ai:qy (ba o)=true:=by
   have:ba o=0∨ba o=1∨ba o=2∨ba o=4∨ba o=5∨ba o=6∨ba o=7:=by
    cases o<;>simp only [ba] at ab al ⊢<;>first | (simp;done) | skip
    case len d m y=>split<;>simp
    case on m bZ =>
     cases bZ<;>simp only at ab al ⊢<;>first | (exact absurd rfl ab) | skip
     all_goals
      first
      | (split<;>simp_all;done)
      | (split at ab<;>simp_all;done)
      | (repeat' split)<;>simp_all
    all_goals exact absurd rfl ab
   rcases this with h | h | h | h | h | h | h<;>rw [h]<;>rfl
  have iK:Alike o s.env s.env:=⟨fun _ _=>rfl,fun _ _=>rfl,fun _ _ _=>rfl,fun _ _ _=>Iff.rfl⟩
  have rX:b0 P gl D ⟨s.env,s.heap⟩ K o:=bp
  obtain ⟨an,us,H',hu,ar⟩:=rU (K2:=fun s'=>K s'∧s'.env.cR∧∀t,t∉cE o→cH s'.env t=cH s.env t) ai iK (fun us H' hu cW =>
   ⟨cW,NB aS,fun t aF=>lg (oi fun p ao e=>aF (e▸hu.mem p ao))⟩) rX
  exact ⟨an,_,ar,NB aS,fun t aF=>lg (oi fun p ao e=>aF (e▸hu.mem p ao))⟩
def jg (P:Program) (gl:aR) (D:cv) (s:ae) (K:ae→Prop) (it:ev):Prop:=match h3 s.env it.g with
 | some true=>b0 P gl D s K it.o
 | some false=>(match fT it.o with
  | some d=>(match s.put d (.bw []) with | some s'=>K s' | none=>False)
  | none=>K s)
 | none=>False
theorem wv {it:ev} {r:List ev} {s:ae} {K:ae→Prop}:gI P gl D (it::r) s K↔jg P gl D s (fun s'=>gI P gl D r s' K) it:=by
 simp only [gI,jg]
 all_goals rfl
theorem zf {it:ev} {s:ae} {K K':ae→Prop} (ab:∀s,K s→K' s) (h:jg P gl D s K it):jg P gl D s K' it:=by
 simp only [jg] at h ⊢
 split at h
 ·exact tx h ab
 ·split at h
  ·split at h
   ·exact ab _ h
   ·exact h
  ·exact ab _ h
 ·exact h
def lh (it:ev):Bool→Option bR
 | true=>some it.o
 | false=>(fT it.o).map fun d=>.I d (.c (.bw []))
def om (P:Program) (gl:aR) (D:cv) (s:ae) (K:ae→Prop):Option bR→Prop
 | some o=>b0 P gl D s K o
 | none=>K s
theorem abQ {s:ae} {d:Nat} {K:ae→Prop}:b0 P gl D s K (.I d (.c (.bw [])))↔(match s.put d (.bw []) with | some s'=>K s' | none=>False):=by
 simp only [b0,au,bl,Option.bind_some,AV.aL]
 all_goals exact Iff.rfl
theorem wx {it:ev} {s:ae} {K:ae→Prop} {b:Bool} (aK:h3 s.env it.g=some b):jg P gl D s K it↔om P gl D s K (lh it b):=by
 simp only [jg,aK]
 cases b with
 | true=>exact Iff.rfl
 | false =>
  simp only [lh]
  cases fT it.o with
  | none=>exact Iff.rfl
  | some d=>exact (abQ (P:=P) (gl:=gl) (D:=D)).symm
def zg (it:ev):List Nat:=match it.g with | some (t,_)=>[t] | none=>[]
theorem NU {g:Option (Nat×Bool)} (h:∀t b,g=some (t,b)→cH env2 t=cH env t):h3 env2 g=h3 env g:=by
 cases g with
 | none=>rfl
 | some p =>
  obtain ⟨t,b⟩:=p
  simp only [h3]
  rcases kI (h t b rfl) with h | ⟨cs,cG,R,aa⟩
  ·rw [h]
  ·rw [R,aa]
def DM (i j:Nat):Bool:=(i==5&&(j==5||j==6))||(i==6&&j==5)
theorem NV {b:Bool} {n:Nat} {H H':List aM} {x u:Option AV} (h:nV b n H x u=some H'):∃id off v ti,x=some (.ptr id off)∧u=some v ∧
  ((b=false∧∃cs,H[id]?=some (.cells cs)∧∃cG,ti=.cells cG)∨(b=true∧∃e cs,H[id]?=some (.buf e cs)∧∃cG,ti=.buf e cG))∧H'=H.set id ti ∧
  ∀r0:List aM,r0[id]?=H[id]?→nV b n r0 x u=some (r0.set id ti):=by
 unfold nV at h
 split at h
 ·rename_i id off v
  split at h
  ·rename_i cs gD
   split at h
   ·rename_i bc
    simp only [Option.some.injEq] at h
    refine ⟨id,off,v,_,rfl,rfl,.inl ⟨bc.1,cs,gD,_,rfl⟩,h.symm,fun r0 aa=>?_⟩
    simp only [nV,aa,gD]
    rw [if_pos bc]
   ·cases h
  ·rename_i e cs gD
   split at h
   ·rename_i bc
    simp only [Option.some.injEq] at h
    refine ⟨id,off,v,_,rfl,rfl,.inr ⟨bc.1,e,cs,gD,_,rfl⟩,h.symm,fun r0 aa=>?_⟩
    simp only [nV,aa,gD]
    rw [if_pos bc]
   ·cases h
  ·cases h
 ·cases h
theorem abR {b bE:Bool} (ah:b≠bE) {n n':Nat} {x v a9 bP:aq} {s:ae} {K:ae→Prop} (bp:b0 P gl D s (fun s1=>b0 P gl D s1 K (.iC bE n' a9 bP)) (.iC b n x v)) :
  b0 P gl D s (fun s1=>b0 P gl D s1 K (.iC b n x v)) (.iC bE n' a9 bP):=by
 simp only [b0,au] at bp ⊢
 cases R:nV b n s.heap (bl gl s.env x) (bl gl s.env v) with
 | none=>rw [R] at bp;exact bp.elim
 | some H1 =>
  rw [R] at bp
  simp only [Option.map_some] at bp
  cases aa:nV bE n' H1 (bl gl s.env a9) (bl gl s.env bP) with
  | none=>rw [aa] at bp;exact bp.elim
  | some r0 =>
   rw [aa] at bp
   simp only [Option.map_some] at bp
   obtain ⟨i,j0,b3,DN,aB,aI,an,rfl,bf⟩:=NV R
   obtain ⟨j,ik,c2,abS,dS,h1,ar,rfl,bu⟩:=NV aa
   have gn:i≠j:=by
    intro gn
    subst gn
    have bz:i<s.heap.length:=by
     rcases an with ⟨_,cs,af,_⟩ | ⟨_,e,cs,af,_⟩<;>exact (List.getElem?_eq_some_iff.1 af).1
    have aK:(s.heap.set i DN)[i]?=some DN:=by simp [bz]
    rw [aK] at ar
    rcases an with ⟨f1,_,_,abT,rfl⟩ | ⟨f1,bH,_,_,abT,rfl⟩
    ·rcases ar with ⟨f2,_⟩ | ⟨_,_,_,al,_⟩
     ·exact ah (by rw [f1,f2])
     ·cases al
    ·rcases ar with ⟨_,_,al,_⟩ | ⟨f2,_⟩
     ·cases al
     ·exact ah (by rw [f1,f2])
   have bQ:s.heap[j]?=(s.heap.set i DN)[j]?:=by rw [List.getElem?_set_ne gn]
   rw [bu s.heap bQ]
   simp only [Option.map_some]
   rw [bf (s.heap.set j abS) (by rw [List.getElem?_set_ne (Ne.symm gn)])]
   simp only [Option.map_some]
   rw [List.set_comm _ _ (Ne.symm gn)]
   exact bp
def zh:bR→bR→Bool
 | .on 4 (.ak _ _ _ _),.fX _ _ _ _ _=>true
 | .fX _ _ _ _ _,.on 4 (.ak _ _ _ _)=>true
 | .iC b _ _ _,.iC bE _ _ _=>b != bE
 | _,_=>false
theorem abU {a b:bR} (h:zh a b=true):(∃d y n ag az ho m k z,a=.on 4 (.ak d y n ag)∧b=.fX az ho m k z)∨(∃d y n ag az ho m k z,b=.on 4 (.ak d y n ag)∧a=.fX az ho m k z)∨∃c n x v fg n' a9 bP,c≠fg∧a=.iC c n x v∧b=.iC fg n' a9 bP:=by
 unfold zh at h
 split at h
 ·exact .inl ⟨_,_,_,_,_,_,_,_,_,rfl,rfl⟩
 ·exact .inr (.inl ⟨_,_,_,_,_,_,_,_,_,rfl,rfl⟩)
 ·exact .inr (.inr ⟨_,_,_,_,_,_,_,_,by simpa using h,rfl,rfl⟩)
 ·cases h
def indep (a b:ev):Bool :=
 y9 (cE a.o) (zg b++(cl b.o++cE b.o))&&y9 (cE b.o) (zg a++(cl a.o++cE a.o)) &&
 (lf (ba a.o) (ba b.o)||DM (ba a.o) (ba b.o)||zh a.o b.o)&&lf (ba a.o) 0&&lf 0 (ba b.o)
theorem r1 {it:ev} {b:Bool} {o:bR} (h:lh it b=some o):(∀t∈cE o,t∈cE it.o)∧(∀t∈cl o,t∈cl it.o)∧(o=it.o∨ba o=0):=by
 cases b with
 | true=>simp [lh] at h;subst h;exact ⟨fun _ h=>h,fun _ h=>h,.inl rfl⟩
 | false =>
  simp only [lh,Option.map_eq_some_iff] at h
  obtain ⟨d,aw,rfl⟩:=h
  refine ⟨fun t aF=>?_,fun t aF=>by simp [cl,bY] at aF,.inr rfl⟩
  simp [cE,fT,my] at aF
  subst aF
  exact dg aw
theorem DO {e:Option bR} {s:ae} {K:ae→Prop} (ab:∀o,e=some o→ba o≠9) (aS:s.env.cR) (bp:om P gl D s K e) :
  om P gl D s (fun s'=>K s'∧s'.env.cR∧∀t,(∀o,e=some o→t∉cE o)→cH s'.env t=cH s.env t) e∧∃s',K s'∧s'.env.cR∧∀t,(∀o,e=some o→t∉cE o)→cH s'.env t=cH s.env t:=by
 cases e with
 | none=>exact ⟨⟨bp,aS,fun _ _=>rfl⟩,s,bp,aS,fun _ _=>rfl⟩
 | some o =>
  obtain ⟨R,s',aa,al,aY⟩:=abP (ab o rfl) aS bp
  exact ⟨tx R fun s' bc=>⟨bc.1,bc.2.1,fun t aF=>bc.2.2 t (aF o rfl)⟩,s',aa,al,fun t aF=>aY t (aF o rfl)⟩
theorem DP {e:Option bR} {s:ae} {K K':ae→Prop} (h:om P gl D s K e) (ab:∀s,K s→K' s):om P gl D s K' e:=by
 cases e with
 | none=>exact ab _ h
 | some o=>exact tx h ab
theorem NW {it:ev} {s:ae} {K:ae→Prop} (ab:ba it.o≠9) (aS:s.env.cR) (h:jg P gl D s K it):jg P gl D s (fun s'=>K s'∧s'.env.cR) it:=by
 cases aK:h3 s.env it.g with
 | none=>simp only [jg,aK] at h
 | some b =>
  rw [wx aK] at h ⊢
  refine DP (DO (fun o aE=>?_) aS h).1 fun s' bc=>⟨bc.1,bc.2.1⟩
  rcases (r1 aE).2.2 with rfl | a0
  ·exact ab
  ·rw [a0];decide
theorem abV {a b:ev} {s:ae} {K:ae→Prop} (abW:ba a.o≠9) (abX:ba b.o≠9) (aS:s.env.cR) (h:indep a b=true) (bp:jg P gl D s (fun s1=>jg P gl D s1 K b) a):jg P gl D s (fun s1=>jg P gl D s1 K a) b:=by
 simp only [indep,Bool.and_eq_true] at h
 obtain ⟨⟨⟨⟨d1,d2⟩,ao⟩,hx⟩,ja⟩:=h
 cases wy:h3 s.env a.g with
 | none=>simp only [jg,wy] at bp
 | some oj =>
  rw [wx wy] at bp
  have abY:∀o,lh a oj=some o→ba o≠9:=fun o aE=>by
   rcases (r1 aE).2.2 with rfl | a0
   ·exact abW
   ·rw [a0];decide
  obtain ⟨abZ,iL,wm,jh,ab0⟩:=DO abY aS bp
  -- the guard of b
  have zi:∀s':ae,(∀t,(∀o,lh a oj=some o→t∉cE o)→cH s'.env t=cH s.env t)→h3 s'.env b.g=h3 s.env b.g:=fun s' ax=>NU fun t hO aK=>ax t fun o aE hw=>by
   have:=za d1 ((r1 aE).1 t hw)
   exact this (by simp [zg,aK])
  cases ah:h3 s.env b.g with
  | none =>
   have:=zi iL ab0
   rw [ah] at this
   simp only [jg,this] at wm
  | some hO =>
   have ab1:∀o,lh b hO=some o→ba o≠9:=fun o aE=>by
    rcases (r1 aE).2.2 with rfl | a0
    ·exact abX
    ·rw [a0];decide
   have mB:om P gl D s (fun s1=>om P gl D s1 K (lh b hO)) (lh a oj):=DP abZ fun s' bc=>by
    have:=zi s' bc.2.2
    rw [ah] at this
    exact (wx this).1 bc.1
   rw [wx ah]
   -- the exchange
   have ab2:om P gl D s (fun s1=>om P gl D s1 K (lh a oj)) (lh b hO):=by
    cases zj:lh a oj with
    | none=>rw [zj] at mB;exact mB
    | some tH =>
     cases DQ:lh b hO with
     | none=>rw [zj,DQ] at mB;exact mB
     | some bt =>
      rw [zj,DQ] at mB
      simp only [om] at mB ⊢
      obtain ⟨NX,ab3,nr⟩:=r1 zj
      obtain ⟨NY,ab4,mA⟩:=r1 DQ
      have nq:∀t∈cE tH,t∉cl bt∧t∉cE bt:=fun t aF=>by
       have:=za d1 (NX t aF)
       simp only [List.mem_append,not_or] at this
       exact ⟨fun h=>this.2.1 (ab4 t h),fun h=>this.2.2 (NY t h)⟩
      have wz:∀t∈cE bt,t∉cl tH∧t∉cE tH:=fun t aF=>by
       have:=za d2 (NY t aF)
       simp only [List.mem_append,not_or] at this
       exact ⟨fun h=>this.2.1 (ab3 t h),fun h=>this.2.2 (NX t h)⟩
      have ab5:lf (ba tH) (ba bt)=true∨DM (ba tH) (ba bt)=true∨zh tH bt=true:=by
       rcases nr with rfl | nr
       ·rcases mA with rfl | mA
        ·simpa [Bool.or_eq_true,or_assoc] using ao
        ·rw [mA];exact .inl hx
       ·rcases mA with rfl | mA
        ·rw [nr];exact .inl ja
        ·rw [nr,mA];exact .inl rfl
      rcases ab5 with cq | zk | ab6
      ·exact swap aS ⟨nq,wz,cq⟩ mB
      ·simp only [DM,Bool.or_eq_true,Bool.and_eq_true,beq_iff_eq] at zk
       rcases zk with ⟨bn,ab7⟩ | ⟨cw,bn⟩
       ·exact (NO bn ab7 nq wz).1 mB
       ·exact (NO bn (.inr cw) wz nq).2 mB
      ·rcases abU ab6 with ⟨d,y,n,ag,az,ho,m,k,z,rfl,rfl⟩ | ⟨d,y,n,ag,az,ho,m,k,z,rfl,rfl⟩ | ⟨c,n,x,v,fg,n',a9,bP,ck,rfl,rfl⟩
       ·exact (NS nq wz).1 mB
       ·exact (NS wz nq).2 mB
       ·exact abR ck mB
   -- the guard of a
   refine DP (DO ab1 aS ab2).1 fun s' bc=>?_
   have:h3 s'.env a.g=h3 s.env a.g:=NU fun t aqR aK=>bc.2.2 t fun o aE hw=>by
    have:=za d2 ((r1 aE).1 t hw)
    exact this (by simp [zg,aK])
   rw [wy] at this
   exact (wx this).2 bc.1
end
end AM
