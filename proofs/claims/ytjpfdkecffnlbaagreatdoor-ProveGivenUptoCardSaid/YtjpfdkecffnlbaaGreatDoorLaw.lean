/- ProveGiven returns true for all arguments that hold together at most 1048576 values and letters: proved as the card of the statement's second form. Conditions: those of the given row alone. -/
import Derived.Test.YtjpfdkecffnlbaaGreatDoorCards
import Derived.Test.YtjpfdkecffnlbaaGreatDoorTie
import Derived.Test.YtjpfdkecffnlbaaGreatDoorG1
import Derived.Test.YtjpfdkecffnlbaaGreatDoorLemN
import Derived.Test.YtjpfdkecffnlbaaGreatDoorAm15
import Derived.Test.YtjpfdkecffnlbaaGreatDoorAm16
import Derived.Deep.DeepHandedRow
import Derived.ProofKit
import Derived.OpenShut
set_option maxRecDepth 100000
namespace Go.Proofs.YtjpfdkecffnlbaaGreatDoor
open Go Go.ChangeShapes Go.WideShapes Go.ChangeAt Go.RowKit

/-! What the bound of the second form gives. -/
theorem one_le {H:Type} (d:DataW H):1≤Rows.uptoBulk d:=by
 cases d with
 | lit l=>cases l<;>simp [Rows.uptoBulk]
 | nil=>simp [Rows.uptoBulk]
 | ptr d=>simp [Rows.uptoBulk]
 | slice elems spare=>simp [Rows.uptoBulk]
 | agg parts=>simp [Rows.uptoBulk]
 | iface t d=>simp [Rows.uptoBulk]
 | map entries=>simp [Rows.uptoBulk]
 | held h=>simp [Rows.uptoBulk]
theorem Lu {H:Type} {d:DataW H}:∀{l:List (DataW H)},d∈l→Rows.uptoBulk d≤Rows.uptoBulkAll l
 | [],h=>by cases h
 | x::r,h=>by
  simp only [Rows.uptoBulkAll]
  rcases List.mem_cons.1 h with rfl | h
  ·omega
  ·have:=Lu h;omega
theorem length_le {H:Type}:∀(l:List (DataW H)),l.length≤Rows.uptoBulkAll l
 | []=>by simp [Rows.uptoBulkAll]
 | x::r=>by have:=one_le x;have:=length_le r;simp only [Rows.uptoBulkAll,List.length_cons];omega
theorem Lv {H:Type}:AM.Pg (H:=H) Rows.uptoBulk:=by
 refine ⟨fun b=>by simp [Rows.uptoBulk],fun e r=>?_,fun e r d aw=>?_,fun l d aw=>?_⟩
 ·have:=length_le e;simp only [Rows.uptoBulk];omega
 ·have:=Lu aw;simp only [Rows.uptoBulk];omega
 ·have:=Lu aw;simp only [Rows.uptoBulk];omega

/-! The program's types and its table. -/
theorem Lw:AM.Pe Tryz.prog 38 23 9:=⟨⟨_,_,Tryz.underlying38,rfl,rfl,rfl,rfl⟩,Tryz.underlying23,Tryz.underlying9,by kernel_rfl,by kernel_rfl,by kernel_rfl⟩
theorem aqq:AM.Bt Tryz.prog 204 172 9 3 4 10:=⟨Tryz.underlying204,⟨_,_,_,_,Tryz.underlying172,rfl,rfl,rfl,rfl,rfl,rfl,rfl,rfl⟩,Tryz.underlying9,Tryz.underlying3,Tryz.underlying4,by kernel_rfl,by kernel_rfl,by kernel_rfl,by kernel_rfl,by kernel_rfl⟩
theorem own:ownKnob Tryz.prog.godebug=none:=by kernel_rfl
theorem aqr:Tryz.prog.globalNamed "gameplayer/check.keywords"=some 0:=by kernel_rfl
theorem aqs:(Tryz.prog.globals[0]?).map (·.type)=some 204:=by kernel_rfl
def x5:List AM.iB:=[⟨[114,111,108,101],1,true,true⟩,⟨[105,110,105,116],1,true,false⟩,⟨[116,114,117,101],1,false,true⟩,⟨[100,111,101,115],2,false,true⟩,⟨[108,101,103,97,108],2,true,false⟩,⟨[110,101,120,116],1,true,false⟩,⟨[116,101,114,109,105,110,97,108],0,true,false⟩,⟨[103,111,97,108],2,true,false⟩,⟨[115,101,101,115],2,true,false⟩,⟨[100,105,115,116,105,110,99,116],2,false,true⟩]
theorem aqt:AM.QF=.cU (x5.map AM.iB.cells).flatten:=rfl
theorem aqu {H:Type}:(Rows.laid_gameplayer_check_keywords:DataW H)=.agg (x5.map AM.iB.vh):=rfl
theorem aqv:∀k∈x5,k.s.length≤AM.M:=by
 have:x5.all (fun k=>decide (k.s.length≤AM.M))=true:=by decide
 exact fun k ab=>of_decide_eq_true (List.all_eq_true.1 this k ab)
theorem e4 {W:World} {γ:AM.dp} (h:laidMet Tryz.prog [("gameplayer/check.keywords",Rows.laid_gameplayer_check_keywords)] W) (fI:∀b o v,W.cell? ⟨b,o,none⟩=some v→γ b o=some v) :
  ∀n x,AM.bq n=some x→AM.cp γ x (AM.ptrTo n 0):=by
 intro n x ai
 unfold AM.bq at ai
 cases a1:Nat.beq n 0 with
 | false=>rw [a1] at ai;cases ai
 | true =>
  rw [a1] at ai
  have e:=Nat.eq_of_beq_eq_true a1
  subst e
  simp only [cond_true,Option.some.injEq] at ai
  subst ai
  rw [aqt]
  rw [aqu] at h
  exact .cU _ _ _ (AM.aqm aqq aqr aqs aqv h fI)

/-- The call over a memory that holds the table: it returns true, and keeps the memory that was there. -/
theorem aqw (H:Type) (enc:TypeId×Value→H) (W:World) (base:Nat) (args:Array Value) (fB gs:List (DataW H)) (before:List MemPlace)
  (rI:∀(j:Nat) t v,Tryz.f4.params[j]?=some t→args[j]?=some v→Value.okWide Tryz.prog W .any base t v)
  (hC:DataW.Whole enc Tryz.prog Tryz.f4.params.toList Rows.proveGivenSpec.vars false W args.toList fB gs before) (dy:laidMet Tryz.prog [("gameplayer/check.keywords",Rows.laid_gameplayer_check_keywords)] W)
  (ab:Rows.uptoSmall H (fB++gs)=true) :
  Calls Tryz.prog 4 args W fun e cM=>∃v,e=.returned v∧Rows.proveGivenSpec.post enc Tryz.prog Tryz.f4 false true false false W args v cM:=by
 have Lt:=hC
 obtain ⟨p,q,dk,lS,rfl,XG,n8⟩:=hC
 rw [Tryz.params4] at dk
 obtain ⟨v0,arp,d0,arq,nv,gu,k9,rfl,rfl,⟨rZ,a0⟩,hS⟩:=trodAll_cons dk
 obtain ⟨v1,XE,d1,XF,aG,an,rfl,rfl,rfl,⟨et,R⟩,bf⟩:=trodAll_cons hS
 obtain ⟨v2,ars,d2,art,aJ,ar,rfl,rfl,rfl,⟨ey,aa⟩,bu⟩:=trodAll_cons bf
 obtain ⟨rfl,rfl,rfl⟩:=trodAll_nil bu
 obtain rfl:args=#[v0,v1,v2]:=by cases args;simp_all
 obtain ⟨rfl,rfl⟩:=trodVars_none lS
 have ah:Rows.uptoBulk d0≤AM.M∧Rows.uptoBulk d1≤AM.M∧Rows.uptoBulk d2≤AM.M:=by
  have h:=of_decide_eq_true ab
  simp only [List.append_nil,Rows.uptoBulkAll] at h
  have:AM.M=1099511627776:=rfl
  omega
 let γ:AM.dp:=fun b o=>W.cell? ⟨b,o,none⟩
 have fI:∀b o v,W.cell? ⟨b,o,none⟩=some v→γ b o=some v:=fun b o v h=>h
 obtain ⟨ix,w0,yA,aqx⟩:=(AM.z0 Lv Lw fI rZ).2 _ _ _ a0 ah.1
 obtain ⟨cT,b3,pe,hx⟩:=(AM.z0 Lv Lw fI et).2 _ _ _ R ah.2.1
 obtain ⟨cn,c2,sa,ja⟩:=(AM.z0 Lv Lw fI ey).2 _ _ _ aa ah.2.2
 obtain ⟨py,aqy,aqz,rfl⟩:=okWide_slice Tryz.underlying23 (rI 0 23 v0 (by rw [Tryz.params4];rfl) rfl)
 obtain ⟨de,aqA,aqB,rfl⟩:=okWide_slice Tryz.underlying23 (rI 1 23 v1 (by rw [Tryz.params4];rfl) rfl)
 obtain ⟨dR,aqC,aqD,rfl⟩:=okWide_slice Tryz.underlying23 (rI 2 23 v2 (by rw [Tryz.params4];rfl) rfl)
 simp only [Value.cells,List.cons.injEq,and_true] at yA pe sa
 subst yA;subst pe;subst sa
 have fR:AM.bW (AM.tt γ) [AM.cN ix,AM.cN cT,AM.cN cn] [.slice py aqy aqz,.slice de aqA aqB,.slice dR aqC aqD] :=
  .cons _ _ _ _ (.pure _ _ aqx) (.cons _ _ _ _ (.pure _ _ hx) (.cons _ _ _ _ (.pure _ _ ja) .nil))
 rw [AM.pS,AM.pS,AM.pS] at fR
 have hF:=AM.apt AM.aqb.2.2 ix cT cn γ W _ (fun b off v h=>h) (e4 dy fI) fR
 refine Calls.mono hF ?_
 rintro e cM ⟨v,dq,rfl,_,ea,nj,⟨fS,jH⟩,_,ax,_⟩
 have au:=ax.kt
 subst au
 refine ⟨_,rfl,AM.aqe (L:=[23,38,9]) (by kernel_rfl) (by rw [Tryz.params4];decide) rfl Lt ?_ rfl rfl (fun b ah=>(nj b ah).1) ?_ jH (ok_one (by kernel_rfl) rfl (okWide_bool_mk Tryz.underlying4 _))⟩
 ·intro b sp aw
  exact trodAll_cons_mk (shut_bool Tryz.underlying4 _) trodAll_mk0
 ·exact congrArg Prod.fst fS

/-- A world for the witness: the settled one, with the table laid. -/
noncomputable def Lx (os:Os):World :=
 { World.holding Tryz.prog os ⟨#[],#[],[]⟩ with heap:=(World.holding Tryz.prog os ⟨#[],#[],[]⟩).heap.modify 0 fun
   | .cells _ t frozen=>.cells (x5.map fun k=>k.iq).flatten.toArray t frozen
   | o=>o }
theorem aqE (os:Os):laidMet Tryz.prog Rows.proveGivenUptoRow.laid ((Lx os).forCall (fun _ _=>0) ⟨#[],#[.slice none 0 0,.slice none 0 0,.slice none 0 0],[]⟩).memory :=
 laidMet_of_run' 8 (by kernel_rfl) (by kernel_rfl)
theorem reads (os:Os) {H:Type} (enc:TypeId×Value→H):∃places,DataW.whole enc Tryz.prog ((Lx os).forCall (fun _ _=>0) ⟨#[],#[.slice none 0 0,.slice none 0 0,.slice none 0 0],[]⟩).memory Tryz.f4.params.toList Rows.proveGivenSpec.vars false #[Value.slice none 0 0,.slice none 0 0,.slice none 0 0].toList 8=some ([.nil,.nil,.nil],[],places) :=
 ⟨[],by kernel_rfl⟩
theorem aqF (os:Os) (started:os.Started) (H:Type) (enc:TypeId×Value→H) (F:Stop.Interp) :
  ReturnsInHanded {} Tryz.checked os 4 .any ((Rows.OpenSpec.upto Rows.proveGivenSpec).preRow enc Tryz.prog Tryz.f4 Rows.proveGivenUptoRow.domain false Rows.proveGivenUptoRow.laid) (((Rows.OpenSpec.upto Rows.proveGivenSpec).at F).post enc Tryz.prog Tryz.f4 false true false false):=by
 obtain ⟨places,ai⟩:=reads os enc
 refine returnsInHanded_of_row (C:=Tryz.checked) (s:=Rows.OpenSpec.upto Rows.proveGivenSpec) own started (by kernel_rfl) Tryz.func4
  (witness_row_at (enc:=enc) (C:=Tryz.checked) false (Lx os) #[.slice none 0 0,.slice none 0 0,.slice none 0 0] rfl (by kernel_rfl) (by kernel_rfl) (by kernel_rfl)
   (OpenSpec.preRow_of_cond 8 ai (by kernel_rfl) (fun k ab=>by cases ab;kernel_rfl) (by kernel_rfl) (aqE os))) ?_
 intro W base args fB gs before rI hC _ aqG _ dy _ _
 exact aqw H enc W base args fB gs before rI hC dy (aqG _ rfl)
theorem aqH:Rows.ProveGivenUptoSaid :=
 OpenClaim.holds_of_cond 4 Tryz.f4 rfl rfl rfl rfl rfl rfl rfl ⟨rfl,rfl,rfl,rfl,rfl⟩ rfl rfl rfl rfl rfl (by kernel_rfl) Tryz.func4 (by kernel_rfl)
  (of_decide_eq_true (by kernel_rfl)) (by unfold Func.isWrapper;first | (rw [if_pos (by decide +kernel)];kernel_rfl) | (rw [if_neg (by decide +kernel)];exact ⟨rfl,rfl⟩))
  (fun os started H enc _ F=>by rw [OpenClaim.pre_eq_preRow];exact aqF os started H enc F)
/-- No parameter wants a stand-in; the program's own looks are off: what the card asks. -/
theorem plain (f:FuncId) (fn:Func) (aP:Tryz.pinned.checked.prog.funcNamed "gameplayer/gameplayerlaw15.ProveGiven"=some f) (FA:Tryz.pinned.checked.prog.funcs[f]?=some fn) :
  false=Tryz.pinned.checked.prog.looks []∧∀(j:Nat) t,fn.params[j]?=some t→Tryz.pinned.checked.prog.wantsStandIn t=false:=by
 obtain rfl:f=4:=Option.some.inj ((show Tryz.prog.funcNamed "gameplayer/gameplayerlaw15.ProveGiven"=some 4 by kernel_rfl).symm.trans aP) |>.symm
 obtain rfl:fn=Tryz.f4:=(Option.some.inj (Tryz.func4.symm.trans FA)).symm
 refine ⟨by kernel_rfl,fun j t aF=>?_⟩
 rw [Tryz.params4] at aF
 have h:=Array.mem_of_getElem? aF
 simp only [List.mem_toArray,List.mem_cons,List.not_mem_nil,or_false] at h
 rcases h with rfl | rfl | rfl
 ·exact (show Tryz.prog.wantsStandIn 23=false by kernel_rfl)
 ·exact (show Tryz.prog.wantsStandIn 23=false by kernel_rfl)
 ·exact (show Tryz.prog.wantsStandIn 23=false by kernel_rfl)
theorem cardUpto:Rows.ProveGivenUptoCardSaid :=
 Claim7.holds_tied_plain_at .later [] _ _ _ _ aqH (fun _ h=>by cases h) (by kernel_rfl) (fun _ h=>by cases h) proveGivenUpto_row_tie rfl ⟨rfl,rfl⟩ (by kernel_rfl) rfl plain (by kernel_rfl)
end Go.Proofs.YtjpfdkecffnlbaaGreatDoor
