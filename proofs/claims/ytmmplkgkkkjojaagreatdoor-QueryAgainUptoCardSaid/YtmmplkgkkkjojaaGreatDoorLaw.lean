/- QueryAgain and QueryFresh return true for all arguments that hold together at most 1048576 values and letters: proved as the cards of the statements's second form. Conditions: those of the given row alone. -/
import Derived.Test.YtmmplkgkkkjojaaGreatDoorCards
import Derived.Test.YtmmplkgkkkjojaaGreatDoorTie
import Derived.Test.YtmmplkgkkkjojaaGreatDoorE50
import Derived.Test.YtmmplkgkkkjojaaGreatDoorAm10
import Derived.Test.YtmmplkgkkkjojaaGreatDoorAm9
import Derived.Deep.DeepHandedRow
import Derived.ProofKit
import Derived.OpenShut
set_option maxRecDepth 100000
namespace Go.Proofs.YtmmplkgkkkjojaaGreatDoor
open Go Go.ChangeShapes Go.WideShapes Go.ChangeAt Go.RowKit
theorem one_le{H:Type}(d:DataW H):1<=Rows.uptoBulk d:=by
 cases d with
 |lit l=>cases l<;>simp[Rows.uptoBulk]|nil=>simp[Rows.uptoBulk]|ptr d=>simp[Rows.uptoBulk]|slice elems spare=>simp[Rows.uptoBulk]|agg parts=>simp[Rows.uptoBulk]|iface t d=>simp[Rows.uptoBulk]|map entries=>simp[Rows.uptoBulk]|held h=>simp[Rows.uptoBulk]
theorem Up{H:Type}{d:DataW H}:∀{l:List (DataW H)},d∈l->Rows.uptoBulk d<=Rows.uptoBulkAll l
 |[],h=>by cases h|x::r,h=>by
  simp only[Rows.uptoBulkAll];rcases List.mem_cons.1 h with rfl|h
  ·omega
  ·have:=Up h;omega
theorem length_le{H:Type}:∀(l:List (DataW H)),l.length<=Rows.uptoBulkAll l
 |[]=>by simp[Rows.uptoBulkAll]|x::r=>by have:=one_le x;have:=length_le r;simp only[Rows.uptoBulkAll,List.length_cons];omega
theorem amA{H:Type}:AM.Ac (H:=H) Rows.uptoBulk:=by
 refine⟨λb=>by simp[Rows.uptoBulk],λe r=>?_,λe r d hd=>?_,λl d hd=>?_⟩
 ·have:=length_le e;simp only[Rows.uptoBulk];omega
 ·have:=Up hd;simp only[Rows.uptoBulk];omega
 ·have:=Up hd;simp only[Rows.uptoBulk];omega
theorem amB:AM.Jd Tryz.prog 25 23 9:=⟨⟨_,_,Tryz.underlying25,rfl,rfl,rfl,rfl⟩,Tryz.underlying23,Tryz.underlying9,by kernel_rfl,by kernel_rfl,by kernel_rfl⟩
theorem aNr:AM.Lp Tryz.prog 25 23 9 4 63 59 61 22:=⟨amB,⟨_,_,Tryz.underlying63,rfl,rfl,rfl,rfl⟩,Tryz.underlying59,⟨_,_,Tryz.underlying61,rfl,rfl,rfl,rfl⟩,Tryz.underlying22,Tryz.underlying4,by kernel_rfl,by kernel_rfl,by kernel_rfl,by kernel_rfl⟩
theorem Hg:AM.TX Tryz.prog 25 23 9 3 46 44:=⟨amB,⟨_,_,_,Tryz.underlying46,rfl,rfl,rfl,rfl,rfl,rfl⟩,Tryz.underlying44,Tryz.underlying3,by kernel_rfl,by kernel_rfl⟩
theorem aNs:AM.LM Tryz.prog 207 161 9 3 4 10:=⟨Tryz.underlying207,⟨_,_,_,_,Tryz.underlying161,rfl,rfl,rfl,rfl,rfl,rfl,rfl,rfl⟩,Tryz.underlying9,Tryz.underlying3,Tryz.underlying4,by kernel_rfl,by kernel_rfl,by kernel_rfl,by kernel_rfl,by kernel_rfl⟩
theorem own:ownKnob Tryz.prog.godebug=none:=by kernel_rfl
theorem aNt:Tryz.prog.globalNamed "gameplayer/check.keywords"=some 0:=by kernel_rfl
theorem aNu:(Tryz.prog.globals[0]?).map (·.type)=some 207:=by kernel_rfl
def Hs:List AM.nn:=[⟨[114,111,108,101],1,true,true⟩,⟨[105,110,105,116],1,true,false⟩,⟨[116,114,117,101],1,false,true⟩,⟨[100,111,101,115],2,false,true⟩,⟨[108,101,103,97,108],2,true,false⟩,⟨[110,101,120,116],1,true,false⟩,⟨[116,101,114,109,105,110,97,108],0,true,false⟩,⟨[103,111,97,108],2,true,false⟩,⟨[115,101,101,115],2,true,false⟩,⟨[100,105,115,116,105,110,99,116],2,false,true⟩]
theorem aNv:AM.ae0=.cL (Hs.map AM.nn.cells).flatten:=rfl
theorem aNw{H:Type}:(Rows.laid_gameplayer_check_keywords:DataW H)=.agg (Hs.map AM.nn.DY):=rfl
theorem aNx:∀k∈Hs,k.s.length<=AM.M:=by
 have:Hs.all (λk=>decide (k.s.length<=AM.M))=true:=by decide
 exact λk hk=>of_decide_eq_true (List.all_eq_true.1 this k hk)
theorem hf{W:World}{γ:AM.fA}(h:laidMet Tryz.prog [("gameplayer/check.keywords",Rows.laid_gameplayer_check_keywords)] W)(gp:∀b o v,W.cell? ⟨b,o,none⟩=some v->γ b o=some v) :
  ∀n x,AM.aD n=some x->AM.dr γ x (AM.ptrTo n 0):=by
 intro n x ah;unfold AM.aD at ah;cases aI:Nat.beq n 0 with
 |false=>rw[aI]at ah;cases ah|true =>
  rw[aI]at ah;have e:=Nat.eq_of_beq_eq_true aI;subst e;simp only[cond_true,Option.some.injEq]at ah;subst ah;rw[aNv];rw[aNw]at h;exact .cL _ _ _ (AM.aNp aNs aNt aNu aNx h gp)
/-- A world for the witness: the settled one, with the table laid. -/
noncomputable def Uq(os:Os):World :=
 { World.holding Tryz.prog os ⟨#[],#[],[]⟩with heap:=(World.holding Tryz.prog os ⟨#[],#[],[]⟩).heap.modify 0 fun
   |.cells _ t frozen=>.cells (Hs.map λk=>k.nw).flatten.toArray t frozen|o=>o }
/-- The call over a memory that holds the table: it returns true, and keeps the memory that was there. -/
theorem aCE(H:Type)(enc:TypeId×Value->H)(W:World)(base:Nat)(args:Array Value)(hz gs:List (DataW H))(before:List MemPlace)
  (BT:∀(j:Nat)t v,Tryz.f5.params[j]?=some t->args[j]?=some v->Value.okWide Tryz.prog W .any base t v)
  (eY:DataW.Whole enc Tryz.prog Tryz.f5.params.toList Rows.queryAgainSpec.vars false W args.toList hz gs before)(cf:laidMet Tryz.prog [("gameplayer/check.keywords",Rows.laid_gameplayer_check_keywords)] W)
  (hk:Rows.uptoSmall H (hz++gs)=true) :
  Calls Tryz.prog 5 args W λe dY=>∃v,e=.returned v/\Rows.queryAgainSpec.post enc Tryz.prog Tryz.f5 false true false false W args v dY:=by
 have Uo:=eY;obtain⟨p,q,cE,gw,rfl,Gx,pB⟩:=eY;rw[Tryz.params5]at cE;obtain⟨v0,aPN,d0,aPO,qu,gI,qm,rfl,rfl,⟨ID,aK⟩,ky⟩:=trodAll_cons cE;obtain⟨v1,amv,d1,amw,aP,aj,rfl,rfl,rfl,⟨ee,h1⟩,bT⟩:=trodAll_cons ky;obtain⟨v2,afY,d2,afZ,aV,av,rfl,rfl,rfl,⟨c9,ab⟩,b8⟩:=trodAll_cons bT;obtain⟨rfl,rfl,rfl⟩:=trodAll_nil b8;obtain rfl:args=#[v0,v1,v2]:=by cases args;simp_all
 obtain⟨rfl,rfl⟩:=trodVars_none gw;have ae:Rows.uptoBulk d0<=1048576/\Rows.uptoBulk d1<=1048576/\Rows.uptoBulk d2<=1048576:=by
  have h:=of_decide_eq_true hk;simp only[List.append_nil,Rows.uptoBulkAll]at h;omega
 let γ:AM.fA:=λb o=>W.cell? ⟨b,o,none⟩
 have gp:∀b o v,W.cell? ⟨b,o,none⟩=some v->γ b o=some v:=λb o v h=>h;obtain⟨kA,w0,HX,Uh,_,I5⟩:=AM.aJ7 amA aNr gp aK ae.1;obtain⟨cV,ba,sl,la,Hh,mT⟩:=AM.TZ amA Hg gp h1 ae.2.1;obtain⟨x2,n5,o0⟩:=AM.TY amA Hg gp ab ae.2.2;obtain⟨a0,aNz,aNA,rfl⟩:=okWide_slice Tryz.underlying22 (BT 0 22 v0 (by rw[Tryz.params5];rfl) rfl);obtain⟨dL,aNB,aNC,rfl⟩:=okWide_slice Tryz.underlying44 (BT 1 44 v1 (by rw[Tryz.params5];rfl) rfl);obtain⟨ws,rfl,Ua⟩:∃ws:List Value,v2=.agg ws.toArray/\AM.fX γ x2.cs ws:=by
  have h:=BT 2 46 v2 (by rw[Tryz.params5];rfl) rfl;simp only[Value.okWide,Tryz.underlying46]at h;obtain⟨cs,rfl,_,_⟩:=h;exact⟨cs.toList,by simp,by simpa[Value.cells]using n5⟩
 simp only[Value.cells,List.cons.injEq,and_true]at HX sl;subst HX;subst sl;have hN:AM.cS (AM.BU γ) [AM.Enc.enc kA,AM.Enc.enc cV,AM.Enc.enc x2] [.slice a0 aNz aNA,.slice dL aNB aNC,.agg ws.toArray]:=by
  refine .cons _ _ _ _ (.pure _ _ Uh) (.cons _ _ _ _ (.pure _ _ la) (.cons _ _ _ _ (.pure _ _ ?_) .nil));show AM.dr γ x2.enc _;rw[<-x2.aft];exact .agg _ _ Ua
 have aND:=AM.aAV AM.aNg kA cV x2 I5 Hh mT o0 γ W _ (λb off v h=>h) (hf cf gp) hN;refine Calls.mono aND ?_;rintro e dY ⟨v,fm,rfl,_,fY,uE,⟨hQ,nA⟩,_,aq,_⟩;have aJ:=aq.oO;subst aJ;refine⟨_,rfl,AM.aNk (L:=[22,61,59,63,44,46,3,23,25,9,4]) (by kernel_rfl) (by rw[Tryz.params5];decide) rfl Uo ?_ rfl rfl (λb ae=>(uE b ae).1) ?_ nA (ok_one (by kernel_rfl) rfl (okWide_bool_mk Tryz.underlying4 _))⟩
 ·intro b sp hd;exact trodAll_cons_mk (shut_bool Tryz.underlying4 _) trodAll_mk0
 ·exact congrArg Prod.fst hQ
theorem aCJ(os:Os):laidMet Tryz.prog Rows.queryAgainUptoRow.laid ((Uq os).forCall (λ_ _=>0) ⟨#[],#[.slice none 0 0,.slice none 0 0,.agg #[.int .i64 0,.slice none 0 0,.string ⟨#[]⟩,.slice none 0 0]],[]⟩).memory :=
 laidMet_of_run' 8 (by kernel_rfl) (by kernel_rfl)
theorem aC7(os:Os){H:Type}(enc:TypeId×Value->H):∃places,DataW.whole enc Tryz.prog ((Uq os).forCall (λ_ _=>0) ⟨#[],#[.slice none 0 0,.slice none 0 0,.agg #[.int .i64 0,.slice none 0 0,.string ⟨#[]⟩,.slice none 0 0]],[]⟩).memory Tryz.f5.params.toList Rows.queryAgainSpec.vars false #[Value.slice none 0 0,.slice none 0 0,.agg #[.int .i64 0,.slice none 0 0,.string ⟨#[]⟩,.slice none 0 0]].toList 8=some ([.nil,.nil,.agg [.lit (.int .i64 0),.nil,.agg [.lit (.string []),.nil]]],[],places) :=
 ⟨[],by kernel_rfl⟩
theorem aC8(os:Os)(started:os.Started)(H:Type)(enc:TypeId×Value->H)(F:Stop.Interp) :
  ReturnsInHanded {} Tryz.checked os 5 .any ((Rows.OpenSpec.upto Rows.queryAgainSpec).preRow enc Tryz.prog Tryz.f5 Rows.queryAgainUptoRow.domain false Rows.queryAgainUptoRow.laid) (((Rows.OpenSpec.upto Rows.queryAgainSpec).at F).post enc Tryz.prog Tryz.f5 false true false false):=by
 obtain⟨places,ah⟩:=aC7 os enc;refine returnsInHanded_of_row (C:=Tryz.checked) (s:=Rows.OpenSpec.upto Rows.queryAgainSpec) own started (by kernel_rfl) Tryz.func5
  (witness_row_at (enc:=enc) (C:=Tryz.checked) false (Uq os) #[.slice none 0 0,.slice none 0 0,.agg #[.int .i64 0,.slice none 0 0,.string ⟨#[]⟩,.slice none 0 0]] rfl (by kernel_rfl) (by kernel_rfl) (by kernel_rfl)
   (OpenSpec.preRow_of_cond 8 ah (by kernel_rfl) (λk hk=>by cases hk;kernel_rfl) (by kernel_rfl) (aCJ os))) ?_
 intro W base args hz gs before BT eY _ aNG _ cf _ _;exact aCE H enc W base args hz gs before BT eY cf (aNG _ rfl)
theorem aC9:Rows.QueryAgainUptoSaid :=
 OpenClaim.holds_of_cond 5 Tryz.f5 rfl rfl rfl rfl rfl rfl rfl ⟨rfl,rfl,rfl,rfl,rfl⟩ rfl rfl rfl rfl rfl (by kernel_rfl) Tryz.func5 (by kernel_rfl)
  (of_decide_eq_true (by kernel_rfl)) (by unfold Func.isWrapper;first|(rw[if_pos (by decide +kernel)];kernel_rfl)|(rw[if_neg (by decide +kernel)];exact⟨rfl,rfl⟩))
  (λos started H enc _ F=>by rw[OpenClaim.pre_eq_preRow];exact aC8 os started H enc F)
/-- No parameter wants a stand-in; the program's own looks are off: what the card asks. -/
theorem aDa(f:FuncId)(fn:Func)(aW:Tryz.pinned.checked.prog.funcNamed "gameplayer/gameplayerlaw16.QueryAgain"=some f)(Sm:Tryz.pinned.checked.prog.funcs[f]?=some fn) :
  false=Tryz.pinned.checked.prog.looks []/\∀(j:Nat)t,fn.params[j]?=some t->Tryz.pinned.checked.prog.wantsStandIn t=false:=by
 obtain rfl:f=5:=Option.some.inj ((show Tryz.prog.funcNamed "gameplayer/gameplayerlaw16.QueryAgain"=some 5 by kernel_rfl).symm.trans aW) |>.symm;obtain rfl:fn=Tryz.f5:=(Option.some.inj (Tryz.func5.symm.trans Sm)).symm;refine⟨by kernel_rfl,λj t aB=>?_⟩;rw[Tryz.params5]at aB;have h:=Array.mem_of_getElem? aB;simp only[List.mem_toArray,List.mem_cons,List.not_mem_nil,or_false]at h;rcases h with rfl|rfl|rfl
 ·exact(show Tryz.prog.wantsStandIn 22=false by kernel_rfl)
 ·exact(show Tryz.prog.wantsStandIn 44=false by kernel_rfl)
 ·exact(show Tryz.prog.wantsStandIn 46=false by kernel_rfl)
theorem cardAgain:Rows.QueryAgainUptoCardSaid :=
 Claim7.holds_tied_plain_at .later [] _ _ _ _ aC9 (λ_ h=>by cases h) (by kernel_rfl) (λ_ h=>by cases h) queryAgainUpto_row_tie rfl ⟨rfl,rfl⟩ (by kernel_rfl) rfl aDa (by kernel_rfl)
/-- The call over a memory that holds the table: it returns true, and keeps the memory that was there. -/
theorem aDb(H:Type)(enc:TypeId×Value->H)(W:World)(base:Nat)(args:Array Value)(hz gs:List (DataW H))(before:List MemPlace)
  (BT:∀(j:Nat)t v,Tryz.f4.params[j]?=some t->args[j]?=some v->Value.okWide Tryz.prog W .any base t v)
  (eY:DataW.Whole enc Tryz.prog Tryz.f4.params.toList Rows.queryFreshSpec.vars false W args.toList hz gs before)(cf:laidMet Tryz.prog [("gameplayer/check.keywords",Rows.laid_gameplayer_check_keywords)] W)
  (hk:Rows.uptoSmall H (hz++gs)=true) :
  Calls Tryz.prog 4 args W λe dY=>∃v,e=.returned v/\Rows.queryFreshSpec.post enc Tryz.prog Tryz.f4 false true false false W args v dY:=by
 have Uo:=eY;obtain⟨p,q,cE,gw,rfl,Gx,pB⟩:=eY;rw[Tryz.params4]at cE;obtain⟨v0,aPN,d0,aPO,qu,gI,qm,rfl,rfl,⟨ID,aK⟩,ky⟩:=trodAll_cons cE;obtain⟨v1,amv,d1,amw,aP,aj,rfl,rfl,rfl,⟨ee,h1⟩,bT⟩:=trodAll_cons ky;obtain⟨v2,afY,d2,afZ,aV,av,rfl,rfl,rfl,⟨c9,ab⟩,b8⟩:=trodAll_cons bT;obtain⟨rfl,rfl,rfl⟩:=trodAll_nil b8;obtain rfl:args=#[v0,v1,v2]:=by cases args;simp_all
 obtain⟨rfl,rfl⟩:=trodVars_none gw;have ae:Rows.uptoBulk d0<=1048576/\Rows.uptoBulk d1<=1048576/\Rows.uptoBulk d2<=1048576:=by
  have h:=of_decide_eq_true hk;simp only[List.append_nil,Rows.uptoBulkAll]at h;omega
 let γ:AM.fA:=λb o=>W.cell? ⟨b,o,none⟩
 have gp:∀b o v,W.cell? ⟨b,o,none⟩=some v->γ b o=some v:=λb o v h=>h;obtain⟨kA,w0,HX,Uh,_,I5⟩:=AM.aJ7 amA aNr gp aK ae.1;obtain⟨cV,ba,sl,la,Hh,mT⟩:=AM.TZ amA Hg gp h1 ae.2.1;obtain⟨x2,n5,o0⟩:=AM.TY amA Hg gp ab ae.2.2;obtain⟨a0,aNz,aNA,rfl⟩:=okWide_slice Tryz.underlying22 (BT 0 22 v0 (by rw[Tryz.params4];rfl) rfl);obtain⟨dL,aNB,aNC,rfl⟩:=okWide_slice Tryz.underlying44 (BT 1 44 v1 (by rw[Tryz.params4];rfl) rfl);obtain⟨ws,rfl,Ua⟩:∃ws:List Value,v2=.agg ws.toArray/\AM.fX γ x2.cs ws:=by
  have h:=BT 2 46 v2 (by rw[Tryz.params4];rfl) rfl;simp only[Value.okWide,Tryz.underlying46]at h;obtain⟨cs,rfl,_,_⟩:=h;exact⟨cs.toList,by simp,by simpa[Value.cells]using n5⟩
 simp only[Value.cells,List.cons.injEq,and_true]at HX sl;subst HX;subst sl;have hN:AM.cS (AM.BU γ) [AM.Enc.enc kA,AM.Enc.enc cV,AM.Enc.enc x2] [.slice a0 aNz aNA,.slice dL aNB aNC,.agg ws.toArray]:=by
  refine .cons _ _ _ _ (.pure _ _ Uh) (.cons _ _ _ _ (.pure _ _ la) (.cons _ _ _ _ (.pure _ _ ?_) .nil));show AM.dr γ x2.enc _;rw[<-x2.aft];exact .agg _ _ Ua
 have aND:=AM.aAY AM.aNg kA cV x2 I5 Hh mT o0 γ W _ (λb off v h=>h) (hf cf gp) hN;refine Calls.mono aND ?_;rintro e dY ⟨v,fm,rfl,_,fY,uE,⟨hQ,nA⟩,_,aq,_⟩;have aJ:=aq.oO;subst aJ;refine⟨_,rfl,AM.aNk (L:=[22,61,59,63,44,46,3,23,25,9,4]) (by kernel_rfl) (by rw[Tryz.params4];decide) rfl Uo ?_ rfl rfl (λb ae=>(uE b ae).1) ?_ nA (ok_one (by kernel_rfl) rfl (okWide_bool_mk Tryz.underlying4 _))⟩
 ·intro b sp hd;exact trodAll_cons_mk (shut_bool Tryz.underlying4 _) trodAll_mk0
 ·exact congrArg Prod.fst hQ
theorem aDc(os:Os):laidMet Tryz.prog Rows.queryFreshUptoRow.laid ((Uq os).forCall (λ_ _=>0) ⟨#[],#[.slice none 0 0,.slice none 0 0,.agg #[.int .i64 0,.slice none 0 0,.string ⟨#[]⟩,.slice none 0 0]],[]⟩).memory :=
 laidMet_of_run' 8 (by kernel_rfl) (by kernel_rfl)
theorem aDh(os:Os){H:Type}(enc:TypeId×Value->H):∃places,DataW.whole enc Tryz.prog ((Uq os).forCall (λ_ _=>0) ⟨#[],#[.slice none 0 0,.slice none 0 0,.agg #[.int .i64 0,.slice none 0 0,.string ⟨#[]⟩,.slice none 0 0]],[]⟩).memory Tryz.f4.params.toList Rows.queryFreshSpec.vars false #[Value.slice none 0 0,.slice none 0 0,.agg #[.int .i64 0,.slice none 0 0,.string ⟨#[]⟩,.slice none 0 0]].toList 8=some ([.nil,.nil,.agg [.lit (.int .i64 0),.nil,.agg [.lit (.string []),.nil]]],[],places) :=
 ⟨[],by kernel_rfl⟩
theorem aDj(os:Os)(started:os.Started)(H:Type)(enc:TypeId×Value->H)(F:Stop.Interp) :
  ReturnsInHanded {} Tryz.checked os 4 .any ((Rows.OpenSpec.upto Rows.queryFreshSpec).preRow enc Tryz.prog Tryz.f4 Rows.queryFreshUptoRow.domain false Rows.queryFreshUptoRow.laid) (((Rows.OpenSpec.upto Rows.queryFreshSpec).at F).post enc Tryz.prog Tryz.f4 false true false false):=by
 obtain⟨places,ah⟩:=aDh os enc;refine returnsInHanded_of_row (C:=Tryz.checked) (s:=Rows.OpenSpec.upto Rows.queryFreshSpec) own started (by kernel_rfl) Tryz.func4
  (witness_row_at (enc:=enc) (C:=Tryz.checked) false (Uq os) #[.slice none 0 0,.slice none 0 0,.agg #[.int .i64 0,.slice none 0 0,.string ⟨#[]⟩,.slice none 0 0]] rfl (by kernel_rfl) (by kernel_rfl) (by kernel_rfl)
   (OpenSpec.preRow_of_cond 8 ah (by kernel_rfl) (λk hk=>by cases hk;kernel_rfl) (by kernel_rfl) (aDc os))) ?_
 intro W base args hz gs before BT eY _ aNG _ cf _ _;exact aDb H enc W base args hz gs before BT eY cf (aNG _ rfl)
theorem aDk:Rows.QueryFreshUptoSaid :=
 OpenClaim.holds_of_cond 4 Tryz.f4 rfl rfl rfl rfl rfl rfl rfl ⟨rfl,rfl,rfl,rfl,rfl⟩ rfl rfl rfl rfl rfl (by kernel_rfl) Tryz.func4 (by kernel_rfl)
  (of_decide_eq_true (by kernel_rfl)) (by unfold Func.isWrapper;first|(rw[if_pos (by decide +kernel)];kernel_rfl)|(rw[if_neg (by decide +kernel)];exact⟨rfl,rfl⟩))
  (λos started H enc _ F=>by rw[OpenClaim.pre_eq_preRow];exact aDj os started H enc F)
/-- No parameter wants a stand-in; the program's own looks are off: what the card asks. -/
theorem aDl(f:FuncId)(fn:Func)(aW:Tryz.pinned.checked.prog.funcNamed "gameplayer/gameplayerlaw16.QueryFresh"=some f)(Sm:Tryz.pinned.checked.prog.funcs[f]?=some fn) :
  false=Tryz.pinned.checked.prog.looks []/\∀(j:Nat)t,fn.params[j]?=some t->Tryz.pinned.checked.prog.wantsStandIn t=false:=by
 obtain rfl:f=4:=Option.some.inj ((show Tryz.prog.funcNamed "gameplayer/gameplayerlaw16.QueryFresh"=some 4 by kernel_rfl).symm.trans aW) |>.symm;obtain rfl:fn=Tryz.f4:=(Option.some.inj (Tryz.func4.symm.trans Sm)).symm;refine⟨by kernel_rfl,λj t aB=>?_⟩;rw[Tryz.params4]at aB;have h:=Array.mem_of_getElem? aB;simp only[List.mem_toArray,List.mem_cons,List.not_mem_nil,or_false]at h;rcases h with rfl|rfl|rfl
 ·exact(show Tryz.prog.wantsStandIn 22=false by kernel_rfl)
 ·exact(show Tryz.prog.wantsStandIn 44=false by kernel_rfl)
 ·exact(show Tryz.prog.wantsStandIn 46=false by kernel_rfl)
theorem cardFresh:Rows.QueryFreshUptoCardSaid :=
 Claim7.holds_tied_plain_at .later [] _ _ _ _ aDk (λ_ h=>by cases h) (by kernel_rfl) (λ_ h=>by cases h) queryFreshUpto_row_tie rfl ⟨rfl,rfl⟩ (by kernel_rfl) rfl aDl (by kernel_rfl)
end Go.Proofs.YtmmplkgkkkjojaaGreatDoor
