/- ProveStable returns true for all arguments that hold together at most 1048576 values and letters: proved as the card of the statement's second form. Conditions: those of the given row alone. -/
import Derived.Test.YtanepioeppghhaaGreatDoorCards
import Derived.Test.YtanepioeppghhaaGreatDoorTie
import Derived.Test.YtanepioeppghhaaGreatDoorE42
import Derived.Test.YtanepioeppghhaaGreatDoorE50
import Derived.Test.YtanepioeppghhaaGreatDoorAm21
import Derived.Test.YtanepioeppghhaaGreatDoorAm22
import Derived.Test.YtanepioeppghhaaGreatDoorAm20
import Derived.Deep.DeepHandedRow
import Derived.ProofKit
import Derived.OpenShut
set_option maxRecDepth 100000
namespace Go.Proofs.YtanepioeppghhaaGreatDoor
open Go Go.ChangeShapes Go.WideShapes Go.ChangeAt Go.RowKit
theorem one_le{H:Type}(d:DataW H):1<=Rows.uptoBulk d:=by
 cases d with
 |lit l=>cases l<;>simp[Rows.uptoBulk]|nil=>simp[Rows.uptoBulk]|ptr d=>simp[Rows.uptoBulk]|slice elems spare=>simp[Rows.uptoBulk]|agg parts=>simp[Rows.uptoBulk]|iface t d=>simp[Rows.uptoBulk]|map entries=>simp[Rows.uptoBulk]|held h=>simp[Rows.uptoBulk]
theorem Rq{H:Type}{d:DataW H}:∀{l:List (DataW H)},d∈l->Rows.uptoBulk d<=Rows.uptoBulkAll l
 |[],h=>by cases h|x::r,h=>by
  simp only[Rows.uptoBulkAll];rcases List.mem_cons.1 h with rfl|h
  ·omega
  ·have:=Rq h;omega
theorem length_le{H:Type}:∀(l:List (DataW H)),l.length<=Rows.uptoBulkAll l
 |[]=>by simp[Rows.uptoBulkAll]|x::r=>by have:=one_le x;have:=length_le r;simp only[Rows.uptoBulkAll,List.length_cons];omega
theorem ahn{H:Type}:AM.y1 (H:=H) Rows.uptoBulk:=by
 refine⟨fun b=>by simp[Rows.uptoBulk],fun e r=>?_,fun e r d hd=>?_,fun l d hd=>?_⟩
 ·have:=length_le e;simp only[Rows.uptoBulk];omega
 ·have:=Rq hd;simp only[Rows.uptoBulk];omega
 ·have:=Rq hd;simp only[Rows.uptoBulk];omega
theorem aho:AM.Hk Tryz.prog 32 23 9:=⟨⟨_,_,Tryz.underlying32,rfl,rfl,rfl,rfl⟩,Tryz.underlying23,Tryz.underlying9,by kernel_rfl,by kernel_rfl,by kernel_rfl⟩
theorem aGd:AM.Jm Tryz.prog 32 23 9 4 37 33 35 22:=⟨aho,⟨_,_,Tryz.underlying37,rfl,rfl,rfl,rfl⟩,Tryz.underlying33,⟨_,_,Tryz.underlying35,rfl,rfl,rfl,rfl⟩,Tryz.underlying22,Tryz.underlying4,by kernel_rfl,by kernel_rfl,by kernel_rfl,by kernel_rfl⟩
theorem aGe:AM.JA Tryz.prog 190 162 9 3 4 10:=⟨Tryz.underlying190,⟨_,_,_,_,Tryz.underlying162,rfl,rfl,rfl,rfl,rfl,rfl,rfl,rfl⟩,Tryz.underlying9,Tryz.underlying3,Tryz.underlying4,by kernel_rfl,by kernel_rfl,by kernel_rfl,by kernel_rfl,by kernel_rfl⟩
theorem own:ownKnob Tryz.prog.godebug=none:=by kernel_rfl
theorem aGf:Tryz.prog.globalNamed "gameplayer/check.keywords"=some 0:=by kernel_rfl
theorem aGg:(Tryz.prog.globals[0]?).map (·.type)=some 190:=by kernel_rfl
def Fz:List AM.mv:=[⟨[114,111,108,101],1,true,true⟩,⟨[105,110,105,116],1,true,false⟩,⟨[116,114,117,101],1,false,true⟩,⟨[100,111,101,115],2,false,true⟩,⟨[108,101,103,97,108],2,true,false⟩,⟨[110,101,120,116],1,true,false⟩,⟨[116,101,114,109,105,110,97,108],0,true,false⟩,⟨[103,111,97,108],2,true,false⟩,⟨[115,101,101,115],2,true,false⟩,⟨[100,105,115,116,105,110,99,116],2,false,true⟩]
theorem aGh:AM.aag=.db (Fz.map AM.mv.cells).flatten:=rfl
theorem aGi{H:Type}:(Rows.laid_gameplayer_check_keywords:DataW H)=.agg (Fz.map AM.mv.Cn):=rfl
theorem aGj:∀k∈Fz,k.s.length<=AM.M:=by
 have:Fz.all (fun k=>decide (k.s.length<=AM.M))=true:=by decide
 exact fun k hk=>of_decide_eq_true (List.all_eq_true.1 this k hk)
theorem gz{W:World}{γ:AM.e4}(h:laidMet Tryz.prog [("gameplayer/check.keywords",Rows.laid_gameplayer_check_keywords)] W)(fJ:∀b o v,W.cell? ⟨b,o,none⟩=some v->γ b o=some v) :
  ∀n x,AM.aB n=some x->AM.df γ x (AM.ptrTo n 0):=by
 intro n x ah;unfold AM.aB at ah;cases aL:Nat.beq n 0 with
 |false=>rw[aL]at ah;cases ah|true =>
  rw[aL]at ah;have e:=Nat.eq_of_beq_eq_true aL;subst e;simp only[cond_true,Option.some.injEq]at ah;subst ah;rw[aGh];rw[aGi]at h;exact .db _ _ _ (AM.aGb aGe aGf aGg aGj h fJ)
/-- The call over a memory that holds the table: it returns true, and keeps the memory that was there. -/
theorem aGk(H:Type)(enc:TypeId×Value->H)(W:World)(base:Nat)(args:Array Value)(hE gs:List (DataW H))(before:List MemPlace)
  (yy:∀(j:Nat)t v,Tryz.f3.params[j]?=some t->args[j]?=some v->Value.okWide Tryz.prog W .any base t v)
  (eS:DataW.Whole enc Tryz.prog Tryz.f3.params.toList Rows.proveStableSpec.vars false W args.toList hE gs before)(cg:laidMet Tryz.prog [("gameplayer/check.keywords",Rows.laid_gameplayer_check_keywords)] W)
  (hk:Rows.uptoSmall H (hE++gs)=true) :
  Calls Tryz.prog 3 args W fun e dF=>∃v,e=.returned v/\Rows.proveStableSpec.post enc Tryz.prog Tryz.f3 false true false false W args v dF:=by
 have Rp:=eS;obtain⟨p,q,cq,hg,rfl,EK,oQ⟩:=eS;rw[Tryz.params3]at cq;obtain⟨v0,aIw,d0,aIx,pJ,hJ,pB,rfl,rfl,⟨GL,aP⟩,jM⟩:=trodAll_cons cq;obtain⟨v1,ahi,d1,ahj,aK,al,rfl,rfl,rfl,⟨dV,h1⟩,bO⟩:=trodAll_cons jM;obtain⟨rfl,rfl,rfl⟩:=trodAll_nil bO;obtain rfl:args=#[v0,v1]:=by cases args;simp_all
 obtain⟨rfl,rfl⟩:=trodVars_none hg;have ae:Rows.uptoBulk d0<=1048576/\Rows.uptoBulk d1<=1048576:=by
  have h:=of_decide_eq_true hk;simp only[List.append_nil,Rows.uptoBulkAll]at h;omega
 let γ:AM.e4:=fun b o=>W.cell? ⟨b,o,none⟩
 have fJ:∀b o v,W.cell? ⟨b,o,none⟩=some v->γ b o=some v:=fun b o v h=>h;obtain⟨jO,w0,F7,Ri,_,Hb⟩:=AM.aD5 ahn aGd fJ aP ae.1;obtain⟨cx,cv,rq,kr,_,l6⟩:=AM.aD2 ahn aho fJ h1 ae.2;obtain⟨a0,aGl,aGm,rfl⟩:=okWide_slice Tryz.underlying22 (yy 0 22 v0 (by rw[Tryz.params3];rfl) rfl);obtain⟨dC,aGn,aGo,rfl⟩:=okWide_slice Tryz.underlying23 (yy 1 23 v1 (by rw[Tryz.params3];rfl) rfl);simp only[Value.cells,List.cons.injEq,and_true]at F7 rq;subst F7;subst rq;have hF:AM.cr (AM.AE γ) [AM.Enc.enc jO,AM.Enc.enc cx] [.slice a0 aGl aGm,.slice dC aGn aGo] :=
  .cons _ _ _ _ (.pure _ _ Ri) (.cons _ _ _ _ (.pure _ _ kr) .nil)
 have aGq:=AM.aEB AM.aF0 jO cx Hb l6 γ W _ (fun b off v h=>h) (gz cg fJ) hF;refine Calls.mono aGq ?_;rintro e dF ⟨v,eQ,rfl,_,fC,tq,⟨hf,mI⟩,_,ar,_⟩;have aH:=ar.nV;subst aH;refine⟨_,rfl,AM.aF6 (L:=[22,35,33,37,23,32,9,4]) (by kernel_rfl) (by rw[Tryz.params3];decide) rfl Rp ?_ rfl rfl (fun b ae=>(tq b ae).1) ?_ mI (ok_one (by kernel_rfl) rfl (okWide_bool_mk Tryz.underlying4 _))⟩
 ·intro b sp hd;exact trodAll_cons_mk (shut_bool Tryz.underlying4 _) trodAll_mk0
 ·exact congrArg Prod.fst hf
/-- A world for the witness: the settled one, with the table laid. -/
noncomputable def Rr(os:Os):World :=
 { World.holding Tryz.prog os ⟨#[],#[],[]⟩with heap:=(World.holding Tryz.prog os ⟨#[],#[],[]⟩).heap.modify 0 fun
   |.cells _ t frozen=>.cells (Fz.map fun k=>k.mE).flatten.toArray t frozen|o=>o }
theorem aGr(os:Os):laidMet Tryz.prog Rows.proveStableUptoRow.laid ((Rr os).forCall (fun _ _=>0) ⟨#[],#[.slice none 0 0,.slice none 0 0],[]⟩).memory :=
 laidMet_of_run' 8 (by kernel_rfl) (by kernel_rfl)
theorem reads(os:Os){H:Type}(enc:TypeId×Value->H):∃places,DataW.whole enc Tryz.prog ((Rr os).forCall (fun _ _=>0) ⟨#[],#[.slice none 0 0,.slice none 0 0],[]⟩).memory Tryz.f3.params.toList Rows.proveStableSpec.vars false #[Value.slice none 0 0,.slice none 0 0].toList 8=some ([.nil,.nil],[],places) :=
 ⟨[],by kernel_rfl⟩
theorem aGs(os:Os)(started:os.Started)(H:Type)(enc:TypeId×Value->H)(F:Stop.Interp) :
  ReturnsInHanded {} Tryz.checked os 3 .any ((Rows.OpenSpec.upto Rows.proveStableSpec).preRow enc Tryz.prog Tryz.f3 Rows.proveStableUptoRow.domain false Rows.proveStableUptoRow.laid) (((Rows.OpenSpec.upto Rows.proveStableSpec).at F).post enc Tryz.prog Tryz.f3 false true false false):=by
 obtain⟨places,ah⟩:=reads os enc;refine returnsInHanded_of_row (C:=Tryz.checked) (s:=Rows.OpenSpec.upto Rows.proveStableSpec) own started (by kernel_rfl) Tryz.func3
  (witness_row_at (enc:=enc) (C:=Tryz.checked) false (Rr os) #[.slice none 0 0,.slice none 0 0] rfl (by kernel_rfl) (by kernel_rfl) (by kernel_rfl)
   (OpenSpec.preRow_of_cond 8 ah (by kernel_rfl) (fun k hk=>by cases hk;kernel_rfl) (by kernel_rfl) (aGr os))) ?_
 intro W base args hE gs before yy eS _ aGt _ cg _ _;exact aGk H enc W base args hE gs before yy eS cg (aGt _ rfl)
theorem aGu:Rows.ProveStableUptoSaid :=
 OpenClaim.holds_of_cond 3 Tryz.f3 rfl rfl rfl rfl rfl rfl rfl ⟨rfl,rfl,rfl,rfl,rfl⟩ rfl rfl rfl rfl rfl (by kernel_rfl) Tryz.func3 (by kernel_rfl)
  (of_decide_eq_true (by kernel_rfl)) (by unfold Func.isWrapper;first|(rw[if_pos (by decide +kernel)];kernel_rfl)|(rw[if_neg (by decide +kernel)];exact⟨rfl,rfl⟩))
  (fun os started H enc _ F=>by rw[OpenClaim.pre_eq_preRow];exact aGs os started H enc F)
/-- No parameter wants a stand-in; the program's own looks are off: what the card asks. -/
theorem plain(f:FuncId)(fn:Func)(aR:Tryz.pinned.checked.prog.funcNamed "gameplayer/gameplayerlaw15.ProveStable"=some f)(PM:Tryz.pinned.checked.prog.funcs[f]?=some fn) :
  false=Tryz.pinned.checked.prog.looks []/\∀(j:Nat)t,fn.params[j]?=some t->Tryz.pinned.checked.prog.wantsStandIn t=false:=by
 obtain rfl:f=3:=Option.some.inj ((show Tryz.prog.funcNamed "gameplayer/gameplayerlaw15.ProveStable"=some 3 by kernel_rfl).symm.trans aR) |>.symm;obtain rfl:fn=Tryz.f3:=(Option.some.inj (Tryz.func3.symm.trans PM)).symm;refine⟨by kernel_rfl,fun j t ay=>?_⟩;rw[Tryz.params3]at ay;have h:=Array.mem_of_getElem? ay;simp only[List.mem_toArray,List.mem_cons,List.not_mem_nil,or_false]at h;rcases h with rfl|rfl
 ·exact(show Tryz.prog.wantsStandIn 22=false by kernel_rfl)
 ·exact(show Tryz.prog.wantsStandIn 23=false by kernel_rfl)
theorem cardUpto:Rows.ProveStableUptoCardSaid :=
 Claim7.holds_tied_plain_at .later [] _ _ _ _ aGu (fun _ h=>by cases h) (by kernel_rfl) (fun _ h=>by cases h) proveStableUpto_row_tie rfl ⟨rfl,rfl⟩ (by kernel_rfl) rfl plain (by kernel_rfl)
end Go.Proofs.YtanepioeppghhaaGreatDoor
