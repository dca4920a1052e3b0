/- What functions of the given program do, as calls of the machine. Conditions: names and lists are bounded where that is said. -/
import Derived.Test.YtanepioeppghhaaGreatDoorE8
import Derived.Test.YtanepioeppghhaaGreatDoorAm19
import Derived.Test.YtanepioeppghhaaGreatDoorAm20
import Derived.Laws.Cover1
import Derived.StillTailTactics
set_option maxRecDepth 100000
set_option maxHeartbeats 4000000
set_option linter.unusedVariables false
namespace AM
open Go Go.Proofs
open Tryz renaming prog -> ν
def aBR:Go.Shelf.Ren:=⟨fun|190=>155|125=>159|258=>165|128=>174|129=>175|302=>177|303=>178|304=>179|305=>180|306=>181|307=>182|308=>183|309=>184|310=>185|333=>191|329=>187|330=>188|334=>192|335=>193|336=>160|344=>195|n=>n,fun|31=>107|9=>9|3=>3|46=>156|0=>0|51=>219|53=>221|4=>4|183=>213|182=>212|131=>125|5=>5|218=>229|222=>233|228=>237|229=>238|n=>n,fun n=>n⟩
theorem aeS:Lays.n190 ν aBR where
 mixed:=by kernel_rfl
 f125:=Tryz.func159.trans (congrArg some (by kernel_rfl))
 f128:=Tryz.func174.trans (congrArg some (by kernel_rfl))
 f129:=Tryz.func175.trans (congrArg some (by kernel_rfl))
 f190:=Tryz.func155.trans (congrArg some (by kernel_rfl))
 f258:=Tryz.func165.trans (congrArg some (by kernel_rfl))
 f302:=Tryz.func177.trans (congrArg some (by kernel_rfl))
 f303:=Tryz.func178.trans (congrArg some (by kernel_rfl))
 f304:=Tryz.func179.trans (congrArg some (by kernel_rfl))
 f305:=Tryz.func180.trans (congrArg some (by kernel_rfl))
 f306:=Tryz.func181.trans (congrArg some (by kernel_rfl))
 f307:=Tryz.func182.trans (congrArg some (by kernel_rfl))
 f308:=Tryz.func183.trans (congrArg some (by kernel_rfl))
 f309:=Tryz.func184.trans (congrArg some (by kernel_rfl))
 f310:=Tryz.func185.trans (congrArg some (by kernel_rfl))
 f329:=Tryz.func187.trans (congrArg some (by kernel_rfl))
 f330:=Tryz.func188.trans (congrArg some (by kernel_rfl))
 f333:=Tryz.func191.trans (congrArg some (by kernel_rfl))
 f334:=Tryz.func192.trans (congrArg some (by kernel_rfl))
 f335:=Tryz.func193.trans (congrArg some (by kernel_rfl))
 f336:=Tryz.func160.trans (congrArg some (by kernel_rfl))
 f344:=Tryz.func195.trans (congrArg some (by kernel_rfl))
 t0:=Tryz.underlying0
 a0:=Tryz.isAgg0
 z0:=Tryz.sizeOf0
 v0:=Tryz.zeroValue0
 t3:=Tryz.underlying3
 a3:=Tryz.isAgg3
 z3:=Tryz.sizeOf3
 v3:=Tryz.zeroValue3
 t4:=Tryz.underlying4
 a4:=Tryz.isAgg4
 z4:=Tryz.sizeOf4
 v4:=Tryz.zeroValue4
 t5:=Tryz.underlying5
 a5:=Tryz.isAgg5
 z5:=Tryz.sizeOf5
 v5:=Tryz.zeroValue5
 t9:=Tryz.underlying9
 a9:=Tryz.isAgg9
 z9:=Tryz.sizeOf9
 v9:=Tryz.zeroValue9
 t31:=Tryz.underlying107
 a31:=Tryz.isAgg107
 z31:=Tryz.sizeOf107
 v31:=Tryz.zeroValue107
 t46:=Tryz.underlying156
 a46:=Tryz.isAgg156
 z46:=Tryz.sizeOf156
 v46:=Tryz.zeroValue156
 t51:=Tryz.underlying219
 a51:=Tryz.isAgg219
 z51:=Tryz.sizeOf219
 v51:=Tryz.zeroValue219
 t53:=Tryz.underlying221
 a53:=Tryz.isAgg221
 z53:=Tryz.sizeOf221
 v53:=Tryz.zeroValue221
 t131:=Tryz.underlying125
 a131:=Tryz.isAgg125
 z131:=Tryz.sizeOf125
 v131:=Tryz.zeroValue125
 t182:=Tryz.underlying212
 a182:=Tryz.isAgg212
 z182:=Tryz.sizeOf212
 v182:=Tryz.zeroValue212
 t183:=Tryz.underlying213
 a183:=Tryz.isAgg213
 z183:=Tryz.sizeOf213
 v183:=Tryz.zeroValue213
 t218:=Tryz.underlying229
 a218:=Tryz.isAgg229
 z218:=Tryz.sizeOf229
 v218:=Tryz.zeroValue229
 t222:=Tryz.underlying233
 a222:=Tryz.isAgg233
 z222:=Tryz.sizeOf233
 v222:=Tryz.zeroValue233
 t228:=Tryz.underlying237
 a228:=Tryz.isAgg237
 z228:=Tryz.sizeOf237
 v228:=Tryz.zeroValue237
 t229:=Tryz.underlying238
 a229:=Tryz.isAgg238
 z229:=Tryz.sizeOf238
 v229:=Tryz.zeroValue238
theorem aBS(H:List ax):bn ν aB 155 [.aV 1] H fun r H'=>r=.a8 []/\H'=H:=aBE aeS (by kernel_rfl) H
variable {H:List ax}{id L:Nat}
theorem aBT(a:id<H.length){l:List aj}(cg:l.length=L)(b:L<=M) :
  bn ν aB 155 [.bs id 0 L 1] (wa 9 H id l) fun r H'=>r=.a8 []/\∃y,H'=wa 9 (H++y) id (Sort.sort mn l.toArray).toList:=by
 subst cg;refine bn.mono (aBC aeS (by kernel_rfl) (PC a) b) ?_;rintro r H' ⟨rfl,rfl⟩;exact⟨rfl,[],by simp[wa]⟩
open Go Go.Proofs Go.Lib
set_option maxHeartbeats 1000000 in
theorem aeY(x y:List UInt8)(W:World):Calls ν 148 #[.string ⟨x.toArray⟩,.string ⟨y.toArray⟩] W fun e w'=>e=.returned (.int .i64 (if Op.bytesLess x y=true then -1 else if(Op.bytesLess x y||x==y)=false then 1 else 0))/\w'=W:=by
 go_enter Tryz.func148,Tryz.ntmps148
 go_wp2
 all_goals (go_ret;simp_all)
set_option maxHeartbeats 1000000 in
theorem aB4(c1 c2:Int)(B:Nat)(W:World)(aP:W.cell? ⟨B,0,none⟩=some (.int .i64 c1))(h1:W.cell? ⟨B,1,none⟩=some (.int .i64 c2)):Calls ν 147 #[.slice (some ⟨B,0,none⟩) 2 2] W fun e w'=>e=.returned (.int .i64 (if c1≠0 then c1 else c2))/\w'=W:=by
 go_enter Tryz.func147,Tryz.ntmps147
 go_wp2
 go_loop [5,8] (fun v i=>∃k:Nat,k<=2/\i=.int .i64 k/\(1<=k->c1=0)/\(k=2->c2=0)) (fun _ i=>2-(Go.Proofs.intOf i).toNat)
 ·exact⟨0,by omega,rfl,by omega,by omega⟩
 ·obtain⟨k,hk,rfl,fX,z2⟩:=hrel;rcases(show k=0\/k=1\/k=2 by omega)with rfl|rfl|rfl
  ·go_wp2
   case roundEnd=>exact⟨⟨1,by omega,rfl,fun _=>by simp_all,by omega⟩,by decide⟩
   all_goals (go_ret;simp_all)
  ·have kQ:=fX (by omega)
   go_wp2
   case roundEnd=>exact⟨⟨2,by omega,rfl,fun _=>kQ,fun _=>by simp_all⟩,by decide⟩
   all_goals (go_ret;simp_all)
  ·have kQ:=fX (by omega);have kR:=z2 rfl
   go_wp2
   all_goals (go_ret;simp_all)
set_option maxHeartbeats 4000000 in
theorem aB6(a b:Int)(e:TypeId)(W:World):Calls ν 147 #[.slice (some ⟨W.heap.size,0,none⟩) 2 2] (W.alloc (.cells #[.int .i64 a,.int .i64 b] e (0,0))) fun c w'=>c=.returned (.int .i64 (if a≠0 then a else b))/\w'=W.alloc (.cells #[.int .i64 a,.int .i64 b] e (0,0)) :=
 aB4 a b _ _ (P0 W _ e 0) (P0 W _ e 1)
set_option maxRecDepth 100000 in
theorem aB7(dC a2 eg e7:List UInt8)(zP tW:Bool)(W:World):Calls ν 123 #[.agg #[.string ⟨dC.toArray⟩,.string ⟨a2.toArray⟩,.bool zP],.agg #[.string ⟨eg.toArray⟩,.string ⟨e7.toArray⟩,.bool tW]] W fun e w'=>e=.returned (.int .i64 (B4 (B4 (uh dC eg) (uh a2 e7)) (if zP=tW then 0 else if tW=true then -1 else 1)))/\∃q PY,w'=Go.Sort.grow (W.drewN q) PY:=by
 have h1:=fun dF=>aeY dC eg dF;have U:=fun dF=>aeY a2 e7 dF;obtain⟨c1,kQ⟩:∃c,c=uh dC eg:=⟨_,rfl⟩;obtain⟨c2,kR⟩:∃c,c=uh a2 e7:=⟨_,rfl⟩;rw[<-kQ,<-kR];change ∀dF,Calls ν 148 _ dF fun e w'=>e=.returned (.int .i64 (uh dC eg))/\w'=dF at h1;change ∀dF,Calls ν 148 _ dF fun e w'=>e=.returned (.int .i64 (uh a2 e7))/\w'=dF at U;rw[<-kQ]at h1;rw[<-kR]at U;clear kQ kR
 go_enter Tryz.func123,Tryz.ntmps123
 go_wp2_with fail
 obtain⟨l7,P1⟩:∃l7,l7=(W.alloc (.cells #[.string ⟨dC.toArray⟩,.string ⟨a2.toArray⟩,.bool zP] 137 (0,0))).alloc (.cells #[.string ⟨eg.toArray⟩,.string ⟨e7.toArray⟩,.bool tW] 137 (0,0)):=⟨_,rfl⟩;have xT:=fun i=>aB2 W #[.string ⟨dC.toArray⟩,.string ⟨a2.toArray⟩,.bool zP] #[.string ⟨eg.toArray⟩,.string ⟨e7.toArray⟩,.bool tW] 137 i;rw[<-P1]at xT ⊢;have aC:aeV (l7=Go.Sort.grow W #[.cells #[.string ⟨dC.toArray⟩,.string ⟨a2.toArray⟩,.bool zP] 137 (0,0),.cells #[.string ⟨eg.toArray⟩,.string ⟨e7.toArray⟩,.bool tW] 137 (0,0)]):=⟨by rw[P1,Go.Sort.alloc_eq_grow,Go.Sort.alloc_eq_grow,Go.Sort.grow_grow];rfl⟩;clear P1;have f0:=fun d=>(B5 l7 d _).trans (xT 0).1;have f1:=fun d=>(B5 l7 d _).trans (xT 1).1;have f2:=fun d=>(B5 l7 d _).trans (xT 2).1;have f3:=fun d=>(B5 l7 d _).trans (xT 0).2;have f4:=fun d=>(B5 l7 d _).trans (xT 1).2;have f5:=fun d=>(B5 l7 d _).trans (xT 2).2;clear xT;simp only[List.getElem?_toArray,List.getElem?_cons_zero,List.getElem?_cons_succ]at f0 f1 f2 f3 f4 f5;refine wp_region_still_tail 10 (by kernel_rfl) (by kernel_rfl) ?_;simp only[List.take_succ_cons,List.take_zero,List.drop_succ_cons,List.drop_zero];repeat still_step
 still_call (h1 _)
 repeat still_step
 still_call (U _)
 repeat still_step
 refine wpStill_nil ?_;obtain⟨xU,E8⟩:∃xU,xU=l7.drew:=⟨_,rfl⟩;have g2:xU.cell? ⟨W.heap.size,2,none⟩=some (.bool zP):=by rw[E8];exact f2 _
 have g5:xU.cell? ⟨W.heap.size+1,2,none⟩=some (.bool tW):=by rw[E8];exact f5 _
 change wpList _ _ _ _ _ l7.drew;rw[<-E8];have Dz:aeV (xU=Go.Sort.grow (W.drewN 1) #[.cells #[.string ⟨dC.toArray⟩,.string ⟨a2.toArray⟩,.bool zP] 137 (0,0),.cells #[.string ⟨eg.toArray⟩,.string ⟨e7.toArray⟩,.bool tW] 137 (0,0)]):=⟨by rw[E8,aC.h];rfl⟩;clear E8 f0 f1 f2 f3 f4 f5 h1 U aC;have ae1:=fun o=>aeW xU o g2;have aCa:=fun o=>aeW xU o g5;clear g2 g5;have aA:=fun e=>aB6 c1 c2 e xU
 go_wp2_with (go_at_call 147;refine(aA _).mono ?_;rintro e w' ⟨rfl,rfl⟩)
 all_goals (go_ret;refine⟨?_,1,_,by rw[Dz.h,Go.Sort.alloc_eq_grow,Go.Sort.grow_grow]⟩;clear Dz ae1 aCa aA;simp_all[B4])
def aCb:Go.Shelf.Ren:=⟨fun|6=>145|15=>159|14=>158|28=>174|29=>175|20=>166|21=>167|22=>168|23=>169|24=>170|25=>171|26=>172|27=>173|46=>186|47=>187|48=>188|49=>189|50=>190|57=>194|n=>n,fun|22=>133|24=>137|25=>173|3=>3|39=>156|0=>0|53=>219|55=>221|4=>4|46=>213|45=>212|50=>125|5=>5|9=>9|66=>229|70=>233|76=>237|77=>238|n=>n,fun n=>n⟩
theorem ae2:SlLaysF0.n6 ν aCb where
 mixed:=by kernel_rfl
 f6:=⟨Tryz.f145.name,by kernel_rfl,Tryz.func145.trans (congrArg some (by kernel_rfl))⟩
 f14:=⟨Tryz.f158.name,by kernel_rfl,Tryz.func158.trans (congrArg some (by kernel_rfl))⟩
 f15:=Tryz.func159.trans (congrArg some (by kernel_rfl))
 f20:=⟨Tryz.f166.name,by kernel_rfl,Tryz.func166.trans (congrArg some (by kernel_rfl))⟩
 f21:=⟨Tryz.f167.name,by kernel_rfl,Tryz.func167.trans (congrArg some (by kernel_rfl))⟩
 f22:=⟨Tryz.f168.name,by kernel_rfl,Tryz.func168.trans (congrArg some (by kernel_rfl))⟩
 f23:=⟨Tryz.f169.name,by kernel_rfl,Tryz.func169.trans (congrArg some (by kernel_rfl))⟩
 f24:=⟨Tryz.f170.name,by kernel_rfl,Tryz.func170.trans (congrArg some (by kernel_rfl))⟩
 f25:=⟨Tryz.f171.name,by kernel_rfl,Tryz.func171.trans (congrArg some (by kernel_rfl))⟩
 f26:=⟨Tryz.f172.name,by kernel_rfl,Tryz.func172.trans (congrArg some (by kernel_rfl))⟩
 f27:=⟨Tryz.f173.name,by kernel_rfl,Tryz.func173.trans (congrArg some (by kernel_rfl))⟩
 f28:=Tryz.func174.trans (congrArg some (by kernel_rfl))
 f29:=Tryz.func175.trans (congrArg some (by kernel_rfl))
 f46:=⟨Tryz.f186.name,by kernel_rfl,Tryz.func186.trans (congrArg some (by kernel_rfl))⟩
 f47:=Tryz.func187.trans (congrArg some (by kernel_rfl))
 f48:=Tryz.func188.trans (congrArg some (by kernel_rfl))
 f49:=⟨Tryz.f189.name,by kernel_rfl,Tryz.func189.trans (congrArg some (by kernel_rfl))⟩
 f50:=⟨Tryz.f190.name,by kernel_rfl,Tryz.func190.trans (congrArg some (by kernel_rfl))⟩
 f57:=⟨Tryz.f194.name,by kernel_rfl,Tryz.func194.trans (congrArg some (by kernel_rfl))⟩
 t0:=Tryz.underlying0
 a0:=Tryz.isAgg0
 z0:=Tryz.sizeOf0
 v0:=Tryz.zeroValue0
 t3:=Tryz.underlying3
 a3:=Tryz.isAgg3
 z3:=Tryz.sizeOf3
 v3:=Tryz.zeroValue3
 t4:=Tryz.underlying4
 a4:=Tryz.isAgg4
 z4:=Tryz.sizeOf4
 v4:=Tryz.zeroValue4
 t5:=Tryz.underlying5
 a5:=Tryz.isAgg5
 z5:=Tryz.sizeOf5
 v5:=Tryz.zeroValue5
 t9:=Tryz.underlying9
 a9:=Tryz.isAgg9
 z9:=Tryz.sizeOf9
 v9:=Tryz.zeroValue9
 t22:=Tryz.underlying133
 a22:=Tryz.isAgg133
 z22:=Tryz.sizeOf133
 v22:=Tryz.zeroValue133
 t25:=Tryz.underlying173
 a25:=Tryz.isAgg173
 z25:=Tryz.sizeOf173
 v25:=Tryz.zeroValue173
 t39:=Tryz.underlying156
 a39:=Tryz.isAgg156
 z39:=Tryz.sizeOf156
 v39:=Tryz.zeroValue156
 t45:=Tryz.underlying212
 a45:=Tryz.isAgg212
 z45:=Tryz.sizeOf212
 v45:=Tryz.zeroValue212
 t46:=Tryz.underlying213
 a46:=Tryz.isAgg213
 z46:=Tryz.sizeOf213
 v46:=Tryz.zeroValue213
 t50:=Tryz.underlying125
 a50:=Tryz.isAgg125
 z50:=Tryz.sizeOf125
 v50:=Tryz.zeroValue125
 t53:=Tryz.underlying219
 a53:=Tryz.isAgg219
 z53:=Tryz.sizeOf219
 v53:=Tryz.zeroValue219
 t55:=Tryz.underlying221
 a55:=Tryz.isAgg221
 z55:=Tryz.sizeOf221
 v55:=Tryz.zeroValue221
 t66:=Tryz.underlying229
 a66:=Tryz.isAgg229
 z66:=Tryz.sizeOf229
 v66:=Tryz.zeroValue229
 t70:=Tryz.underlying233
 a70:=Tryz.isAgg233
 z70:=Tryz.sizeOf233
 v70:=Tryz.zeroValue233
 t76:=Tryz.underlying237
 a76:=Tryz.isAgg237
 z76:=Tryz.sizeOf237
 v76:=Tryz.zeroValue237
 t77:=Tryz.underlying238
 a77:=Tryz.isAgg238
 z77:=Tryz.sizeOf238
 v77:=Tryz.zeroValue238
theorem aCc(H:List ax):bn ν aB 145 [.aV 3,.fn 123 []] H fun r H'=>r=.a8 []/\H'=H:=aB1 ae2 (by kernel_rfl) H
theorem aCd(a:id<H.length){l:List bE}(cg:l.length=L)(b:L<=M) :
  bn ν aB 145 [.bs id 0 L 3,.fn 123 []] (wb 137 H id l) fun r H'=>r=.a8 []/\∃y,H'=wb 137 (H++y) id (Sort.sort pf l.toArray).toList:=by
 subst cg;refine bn.mono (aBW ae2 Tryz.isAgg137 Tryz.sizeOf137 (enters_of Tryz.func123 (by kernel_rfl) rfl) (fun x y W=>by rw[aB3];exact aB7 x.src x.dst y.src y.dst x.neg y.neg W) (by kernel_rfl) (PD a) b) ?_;rintro r H' ⟨rfl,rfl⟩;exact⟨rfl,[],by simp[wb]⟩
end AM
