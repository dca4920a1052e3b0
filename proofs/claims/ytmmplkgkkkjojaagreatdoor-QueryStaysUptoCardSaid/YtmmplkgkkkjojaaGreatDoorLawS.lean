/- QueryStays returns true for all arguments that hold together at most 1048576 values and letters: proved as the card of the statement's second form. Conditions: those of the given row alone. -/
import Derived.Test.YtmmplkgkkkjojaaGreatDoorCards
import Derived.Test.YtmmplkgkkkjojaaGreatDoorTie
import Derived.Test.YtmmplkgkkkjojaaGreatDoorE50
import Derived.Test.YtmmplkgkkkjojaaGreatDoorE88
import Derived.Test.YtmmplkgkkkjojaaGreatDoorAm10
import Derived.Test.YtmmplkgkkkjojaaGreatDoorAm9
import Derived.Deep.DeepHandedRow
import Derived.ProofKit
import Derived.OpenShut
set_option maxRecDepth 100000
namespace Go.Proofs.YtmmplkgkkkjojaaGreatDoor
open Go Go.ChangeShapes Go.WideShapes Go.ChangeAt Go.RowKit
theorem one_le{H:Type}(d:DataW H):1<=Rows.uptoBulk d:=by
 cases d with
 |lit l=>cases l<;>simp[Rows.uptoBulk]|nil=>simp[Rows.uptoBulk]|ptr d=>simp[Rows.uptoBulk]|slice elems spare=>simp[Rows.uptoBulk]|agg parts=>simp[Rows.uptoBulk]|iface t d=>simp[Rows.uptoBulk]|map entries=>simp[Rows.uptoBulk]|held h=>simp[Rows.uptoBulk]
theorem Up{H:Type}{d:DataW H}:∀{l:List (DataW H)},d∈l->Rows.uptoBulk d<=Rows.uptoBulkAll l
 |[],h=>by cases h|x::r,h=>by
  simp only[Rows.uptoBulkAll];rcases List.mem_cons.1 h with rfl|h
  ·omega
  ·have:=Up h;omega
theorem length_le{H:Type}:∀(l:List (DataW H)),l.length<=Rows.uptoBulkAll l
 |[]=>by simp[Rows.uptoBulkAll]|x::r=>by have:=one_le x;have:=length_le r;simp only[Rows.uptoBulkAll,List.length_cons];omega
theorem amA{H:Type}:AM.Ac (H:=H) Rows.uptoBulk:=by
 refine⟨λb=>by simp[Rows.uptoBulk],λe r=>?_,λe r d hd=>?_,λl d hd=>?_⟩
 ·have:=length_le e;simp only[Rows.uptoBulk];omega
 ·have:=Up hd;simp only[Rows.uptoBulk];omega
 ·have:=Up hd;simp only[Rows.uptoBulk];omega
theorem amB:AM.Jd Tryz.prog 25 23 9:=⟨⟨_,_,Tryz.underlying25,rfl,rfl,rfl,rfl⟩,Tryz.underlying23,Tryz.underlying9,by kernel_rfl,by kernel_rfl,by kernel_rfl⟩
theorem aNr:AM.Lp Tryz.prog 25 23 9 4 63 59 61 22:=⟨amB,⟨_,_,Tryz.underlying63,rfl,rfl,rfl,rfl⟩,Tryz.underlying59,⟨_,_,Tryz.underlying61,rfl,rfl,rfl,rfl⟩,Tryz.underlying22,Tryz.underlying4,by kernel_rfl,by kernel_rfl,by kernel_rfl,by kernel_rfl⟩
theorem Hg:AM.TX Tryz.prog 25 23 9 3 46 44:=⟨amB,⟨_,_,_,Tryz.underlying46,rfl,rfl,rfl,rfl,rfl,rfl⟩,Tryz.underlying44,Tryz.underlying3,by kernel_rfl,by kernel_rfl⟩
theorem aNs:AM.LM Tryz.prog 207 161 9 3 4 10:=⟨Tryz.underlying207,⟨_,_,_,_,Tryz.underlying161,rfl,rfl,rfl,rfl,rfl,rfl,rfl,rfl⟩,Tryz.underlying9,Tryz.underlying3,Tryz.underlying4,by kernel_rfl,by kernel_rfl,by kernel_rfl,by kernel_rfl,by kernel_rfl⟩
theorem own:ownKnob Tryz.prog.godebug=none:=by kernel_rfl
theorem aNt:Tryz.prog.globalNamed "gameplayer/check.keywords"=some 0:=by kernel_rfl
theorem aNu:(Tryz.prog.globals[0]?).map (·.type)=some 207:=by kernel_rfl
def Hs:List AM.nn:=[⟨[114,111,108,101],1,true,true⟩,⟨[105,110,105,116],1,true,false⟩,⟨[116,114,117,101],1,false,true⟩,⟨[100,111,101,115],2,false,true⟩,⟨[108,101,103,97,108],2,true,false⟩,⟨[110,101,120,116],1,true,false⟩,⟨[116,101,114,109,105,110,97,108],0,true,false⟩,⟨[103,111,97,108],2,true,false⟩,⟨[115,101,101,115],2,true,false⟩,⟨[100,105,115,116,105,110,99,116],2,false,true⟩]
theorem aNv:AM.ae0=.cL (Hs.map AM.nn.cells).flatten:=rfl
theorem aNw{H:Type}:(Rows.laid_gameplayer_check_keywords:DataW H)=.agg (Hs.map AM.nn.DY):=rfl
theorem aNx:∀k∈Hs,k.s.length<=AM.M:=by
 have:Hs.all (λk=>decide (k.s.length<=AM.M))=true:=by decide
 exact λk hk=>of_decide_eq_true (List.all_eq_true.1 this k hk)
theorem hf{W:World}{γ:AM.fA}(h:laidMet Tryz.prog [("gameplayer/check.keywords",Rows.laid_gameplayer_check_keywords)] W)(gp:∀b o v,W.cell? ⟨b,o,none⟩=some v->γ b o=some v) :
  ∀n x,AM.aD n=some x->AM.dr γ x (AM.ptrTo n 0):=by
 intro n x ah;unfold AM.aD at ah;cases aI:Nat.beq n 0 with
 |false=>rw[aI]at ah;cases ah|true =>
  rw[aI]at ah;have e:=Nat.eq_of_beq_eq_true aI;subst e;simp only[cond_true,Option.some.injEq]at ah;subst ah;rw[aNv];rw[aNw]at h;exact .cL _ _ _ (AM.aNp aNs aNt aNu aNx h gp)
/-- A world for the witness: the settled one, with the table laid. -/
noncomputable def Uq(os:Os):World :=
 { World.holding Tryz.prog os ⟨#[],#[],[]⟩with heap:=(World.holding Tryz.prog os ⟨#[],#[],[]⟩).heap.modify 0 fun
   |.cells _ t frozen=>.cells (Hs.map λk=>k.nw).flatten.toArray t frozen|o=>o }
/-- The call over a memory that holds the table: it returns true, and keeps the memory that was there. -/
theorem aDs(H:Type)(enc:TypeId×Value->H)(W:World)(base:Nat)(args:Array Value)(hz gs:List (DataW H))(before:List MemPlace)
  (BT:∀(j:Nat)t v,Tryz.f6.params[j]?=some t->args[j]?=some v->Value.okWide Tryz.prog W .any base t v)
  (eY:DataW.Whole enc Tryz.prog Tryz.f6.params.toList Rows.queryStaysSpec.vars false W args.toList hz gs before)(cf:laidMet Tryz.prog [("gameplayer/check.keywords",Rows.laid_gameplayer_check_keywords)] W)
  (hk:Rows.uptoSmall H (hz++gs)=true) :
  Calls Tryz.prog 6 args W λe dY=>∃v,e=.returned v/\Rows.queryStaysSpec.post enc Tryz.prog Tryz.f6 false true false false W args v dY:=by
 have Uo:=eY;obtain⟨p,q,cE,gw,rfl,Gx,pB⟩:=eY;rw[Tryz.params6]at cE;obtain⟨v0,aPN,d0,aPO,qu,gI,qm,rfl,rfl,⟨ID,aK⟩,ky⟩:=trodAll_cons cE;obtain⟨v1,amv,d1,amw,aP,aj,rfl,rfl,rfl,⟨ee,h1⟩,bT⟩:=trodAll_cons ky;obtain⟨v2,afY,d2,afZ,aV,av,rfl,rfl,rfl,⟨c9,ab⟩,b8⟩:=trodAll_cons bT;obtain⟨rfl,rfl,rfl⟩:=trodAll_nil b8;obtain rfl:args=#[v0,v1,v2]:=by cases args;simp_all
 obtain⟨rfl,rfl⟩:=trodVars_none gw;have ae:Rows.uptoBulk d0<=1048576/\Rows.uptoBulk d1<=1048576/\Rows.uptoBulk d2<=1048576:=by
  have h:=of_decide_eq_true hk;simp only[List.append_nil,Rows.uptoBulkAll]at h;omega
 let γ:AM.fA:=λb o=>W.cell? ⟨b,o,none⟩
 have gp:∀b o v,W.cell? ⟨b,o,none⟩=some v->γ b o=some v:=λb o v h=>h;obtain⟨kA,w0,HX,Uh,_,I5⟩:=AM.aJ7 amA aNr gp aK ae.1;obtain⟨cV,ba,sl,la,Hh,mT⟩:=AM.TZ amA Hg gp h1 ae.2.1;obtain⟨cH,dN,rz,n5,_,o0⟩:=AM.aJ4 amA amB gp ab ae.2.2;obtain⟨a0,aNz,aNA,rfl⟩:=okWide_slice Tryz.underlying22 (BT 0 22 v0 (by rw[Tryz.params6];rfl) rfl);obtain⟨dL,aNB,aNC,rfl⟩:=okWide_slice Tryz.underlying44 (BT 1 44 v1 (by rw[Tryz.params6];rfl) rfl);obtain⟨a2,aDt,aDu,rfl⟩:=okWide_slice Tryz.underlying23 (BT 2 23 v2 (by rw[Tryz.params6];rfl) rfl);simp only[Value.cells,List.cons.injEq,and_true]at HX sl rz;subst HX;subst sl;subst rz;have hN:AM.cS (AM.BU γ) [AM.Enc.enc kA,AM.Enc.enc cV,AM.Enc.enc cH] [.slice a0 aNz aNA,.slice dL aNB aNC,.slice a2 aDt aDu] :=
  .cons _ _ _ _ (.pure _ _ Uh) (.cons _ _ _ _ (.pure _ _ la) (.cons _ _ _ _ (.pure _ _ n5) .nil))
 have aND:=AM.aA4 AM.aNg kA cV cH I5 Hh mT o0 γ W _ (λb off v h=>h) (hf cf gp) hN;refine Calls.mono aND ?_;rintro e dY ⟨v,fm,rfl,_,fY,uE,⟨hQ,nA⟩,_,aq,_⟩;have aJ:=aq.oO;subst aJ;refine⟨_,rfl,AM.aNk (L:=[22,61,59,63,44,46,3,23,25,9,4]) (by kernel_rfl) (by rw[Tryz.params6];decide) rfl Uo ?_ rfl rfl (λb ae=>(uE b ae).1) ?_ nA (ok_one (by kernel_rfl) rfl (okWide_bool_mk Tryz.underlying4 _))⟩
 ·intro b sp hd;exact trodAll_cons_mk (shut_bool Tryz.underlying4 _) trodAll_mk0
 ·exact congrArg Prod.fst hQ
theorem aDv(os:Os):laidMet Tryz.prog Rows.queryStaysUptoRow.laid ((Uq os).forCall (λ_ _=>0) ⟨#[],#[.slice none 0 0,.slice none 0 0,.slice none 0 0],[]⟩).memory :=
 laidMet_of_run' 8 (by kernel_rfl) (by kernel_rfl)
theorem aDw(os:Os){H:Type}(enc:TypeId×Value->H):∃places,DataW.whole enc Tryz.prog ((Uq os).forCall (λ_ _=>0) ⟨#[],#[.slice none 0 0,.slice none 0 0,.slice none 0 0],[]⟩).memory Tryz.f6.params.toList Rows.queryStaysSpec.vars false #[Value.slice none 0 0,.slice none 0 0,.slice none 0 0].toList 8=some ([.nil,.nil,.nil],[],places) :=
 ⟨[],by kernel_rfl⟩
theorem aDx(os:Os)(started:os.Started)(H:Type)(enc:TypeId×Value->H)(F:Stop.Interp) :
  ReturnsInHanded {} Tryz.checked os 6 .any ((Rows.OpenSpec.upto Rows.queryStaysSpec).preRow enc Tryz.prog Tryz.f6 Rows.queryStaysUptoRow.domain false Rows.queryStaysUptoRow.laid) (((Rows.OpenSpec.upto Rows.queryStaysSpec).at F).post enc Tryz.prog Tryz.f6 false true false false):=by
 obtain⟨places,ah⟩:=aDw os enc;refine returnsInHanded_of_row (C:=Tryz.checked) (s:=Rows.OpenSpec.upto Rows.queryStaysSpec) own started (by kernel_rfl) Tryz.func6
  (witness_row_at (enc:=enc) (C:=Tryz.checked) false (Uq os) #[.slice none 0 0,.slice none 0 0,.slice none 0 0] rfl (by kernel_rfl) (by kernel_rfl) (by kernel_rfl)
   (OpenSpec.preRow_of_cond 8 ah (by kernel_rfl) (λk hk=>by cases hk;kernel_rfl) (by kernel_rfl) (aDv os))) ?_
 intro W base args hz gs before BT eY _ aNG _ cf _ _;exact aDs H enc W base args hz gs before BT eY cf (aNG _ rfl)
theorem aEs:Rows.QueryStaysUptoSaid :=
 OpenClaim.holds_of_cond 6 Tryz.f6 rfl rfl rfl rfl rfl rfl rfl ⟨rfl,rfl,rfl,rfl,rfl⟩ rfl rfl rfl rfl rfl (by kernel_rfl) Tryz.func6 (by kernel_rfl)
  (of_decide_eq_true (by kernel_rfl)) (by unfold Func.isWrapper;first|(rw[if_pos (by decide +kernel)];kernel_rfl)|(rw[if_neg (by decide +kernel)];exact⟨rfl,rfl⟩))
  (λos started H enc _ F=>by rw[OpenClaim.pre_eq_preRow];exact aDx os started H enc F)
/-- No parameter wants a stand-in; the program's own looks are off: what the card asks. -/
theorem aEt(f:FuncId)(fn:Func)(aW:Tryz.pinned.checked.prog.funcNamed "gameplayer/gameplayerlaw16.QueryStays"=some f)(Sm:Tryz.pinned.checked.prog.funcs[f]?=some fn) :
  false=Tryz.pinned.checked.prog.looks []/\∀(j:Nat)t,fn.params[j]?=some t->Tryz.pinned.checked.prog.wantsStandIn t=false:=by
 obtain rfl:f=6:=Option.some.inj ((show Tryz.prog.funcNamed "gameplayer/gameplayerlaw16.QueryStays"=some 6 by kernel_rfl).symm.trans aW) |>.symm;obtain rfl:fn=Tryz.f6:=(Option.some.inj (Tryz.func6.symm.trans Sm)).symm;refine⟨by kernel_rfl,λj t aB=>?_⟩;rw[Tryz.params6]at aB;have h:=Array.mem_of_getElem? aB;simp only[List.mem_toArray,List.mem_cons,List.not_mem_nil,or_false]at h;rcases h with rfl|rfl|rfl
 ·exact(show Tryz.prog.wantsStandIn 22=false by kernel_rfl)
 ·exact(show Tryz.prog.wantsStandIn 44=false by kernel_rfl)
 ·exact(show Tryz.prog.wantsStandIn 23=false by kernel_rfl)
theorem cardStays:Rows.QueryStaysUptoCardSaid :=
 Claim7.holds_tied_plain_at .later [] _ _ _ _ aEs (λ_ h=>by cases h) (by kernel_rfl) (λ_ h=>by cases h) queryStaysUpto_row_tie rfl ⟨rfl,rfl⟩ (by kernel_rfl) rfl aEt (by kernel_rfl)
end Go.Proofs.YtmmplkgkkkjojaaGreatDoor
