/- What functions of the given program do, as calls of the machine. Conditions: names and lists are bounded where that is said. -/
import Derived.Test.YtclmmldjogkhoaaGreatDoorE8
import Derived.Test.YtclmmldjogkhoaaGreatDoorAm19
import Derived.Test.YtclmmldjogkhoaaGreatDoorAm20
import Derived.Laws.Cover1
import Derived.StillTailTactics
set_option maxRecDepth 100000
set_option maxHeartbeats 4000000
set_option linter.unusedVariables false
namespace AM
open Go Go.Proofs
open Tryz renaming prog -> ν
def aBR:Go.Shelf.Ren:=⟨fun|190=>140|125=>144|258=>150|128=>159|129=>160|302=>162|303=>163|304=>164|305=>165|306=>166|307=>167|308=>168|309=>169|310=>170|333=>176|329=>172|330=>173|334=>177|335=>178|336=>145|344=>180|n=>n,fun|31=>113|9=>9|3=>3|46=>150|0=>0|51=>217|53=>219|4=>4|183=>211|182=>210|131=>119|5=>5|218=>227|222=>231|228=>235|229=>236|n=>n,fun n=>n⟩
theorem aeS:Lays.n190 ν aBR where
 mixed:=by kernel_rfl
 f125:=Tryz.func144.trans (congrArg some (by kernel_rfl))
 f128:=Tryz.func159.trans (congrArg some (by kernel_rfl))
 f129:=Tryz.func160.trans (congrArg some (by kernel_rfl))
 f190:=Tryz.func140.trans (congrArg some (by kernel_rfl))
 f258:=Tryz.func150.trans (congrArg some (by kernel_rfl))
 f302:=Tryz.func162.trans (congrArg some (by kernel_rfl))
 f303:=Tryz.func163.trans (congrArg some (by kernel_rfl))
 f304:=Tryz.func164.trans (congrArg some (by kernel_rfl))
 f305:=Tryz.func165.trans (congrArg some (by kernel_rfl))
 f306:=Tryz.func166.trans (congrArg some (by kernel_rfl))
 f307:=Tryz.func167.trans (congrArg some (by kernel_rfl))
 f308:=Tryz.func168.trans (congrArg some (by kernel_rfl))
 f309:=Tryz.func169.trans (congrArg some (by kernel_rfl))
 f310:=Tryz.func170.trans (congrArg some (by kernel_rfl))
 f329:=Tryz.func172.trans (congrArg some (by kernel_rfl))
 f330:=Tryz.func173.trans (congrArg some (by kernel_rfl))
 f333:=Tryz.func176.trans (congrArg some (by kernel_rfl))
 f334:=Tryz.func177.trans (congrArg some (by kernel_rfl))
 f335:=Tryz.func178.trans (congrArg some (by kernel_rfl))
 f336:=Tryz.func145.trans (congrArg some (by kernel_rfl))
 f344:=Tryz.func180.trans (congrArg some (by kernel_rfl))
 t0:=Tryz.underlying0
 a0:=Tryz.isAgg0
 z0:=Tryz.sizeOf0
 v0:=Tryz.zeroValue0
 t3:=Tryz.underlying3
 a3:=Tryz.isAgg3
 z3:=Tryz.sizeOf3
 v3:=Tryz.zeroValue3
 t4:=Tryz.underlying4
 a4:=Tryz.isAgg4
 z4:=Tryz.sizeOf4
 v4:=Tryz.zeroValue4
 t5:=Tryz.underlying5
 a5:=Tryz.isAgg5
 z5:=Tryz.sizeOf5
 v5:=Tryz.zeroValue5
 t9:=Tryz.underlying9
 a9:=Tryz.isAgg9
 z9:=Tryz.sizeOf9
 v9:=Tryz.zeroValue9
 t31:=Tryz.underlying113
 a31:=Tryz.isAgg113
 z31:=Tryz.sizeOf113
 v31:=Tryz.zeroValue113
 t46:=Tryz.underlying150
 a46:=Tryz.isAgg150
 z46:=Tryz.sizeOf150
 v46:=Tryz.zeroValue150
 t51:=Tryz.underlying217
 a51:=Tryz.isAgg217
 z51:=Tryz.sizeOf217
 v51:=Tryz.zeroValue217
 t53:=Tryz.underlying219
 a53:=Tryz.isAgg219
 z53:=Tryz.sizeOf219
 v53:=Tryz.zeroValue219
 t131:=Tryz.underlying119
 a131:=Tryz.isAgg119
 z131:=Tryz.sizeOf119
 v131:=Tryz.zeroValue119
 t182:=Tryz.underlying210
 a182:=Tryz.isAgg210
 z182:=Tryz.sizeOf210
 v182:=Tryz.zeroValue210
 t183:=Tryz.underlying211
 a183:=Tryz.isAgg211
 z183:=Tryz.sizeOf211
 v183:=Tryz.zeroValue211
 t218:=Tryz.underlying227
 a218:=Tryz.isAgg227
 z218:=Tryz.sizeOf227
 v218:=Tryz.zeroValue227
 t222:=Tryz.underlying231
 a222:=Tryz.isAgg231
 z222:=Tryz.sizeOf231
 v222:=Tryz.zeroValue231
 t228:=Tryz.underlying235
 a228:=Tryz.isAgg235
 z228:=Tryz.sizeOf235
 v228:=Tryz.zeroValue235
 t229:=Tryz.underlying236
 a229:=Tryz.isAgg236
 z229:=Tryz.sizeOf236
 v229:=Tryz.zeroValue236
theorem aBS(H:List ax):bn ν aB 140 [.aV 1] H fun r H'=>r=.a8 []/\H'=H:=aBE aeS (by kernel_rfl) H
variable {H:List ax}{id L:Nat}
theorem aBT(a:id<H.length){l:List aj}(cg:l.length=L)(b:L<=M) :
  bn ν aB 140 [.bs id 0 L 1] (wa 9 H id l) fun r H'=>r=.a8 []/\∃y,H'=wa 9 (H++y) id (Sort.sort mn l.toArray).toList:=by
 subst cg;refine bn.mono (aBC aeS (by kernel_rfl) (PC a) b) ?_;rintro r H' ⟨rfl,rfl⟩;exact⟨rfl,[],by simp[wa]⟩
open Go Go.Proofs Go.Lib
set_option maxHeartbeats 1000000 in
theorem aeY(x y:List UInt8)(W:World):Calls ν 133 #[.string ⟨x.toArray⟩,.string ⟨y.toArray⟩] W fun e w'=>e=.returned (.int .i64 (if Op.bytesLess x y=true then -1 else if(Op.bytesLess x y||x==y)=false then 1 else 0))/\w'=W:=by
 go_enter Tryz.func133,Tryz.ntmps133
 go_wp2
 all_goals (go_ret;simp_all)
set_option maxHeartbeats 1000000 in
theorem aB4(c1 c2:Int)(B:Nat)(W:World)(aP:W.cell? ⟨B,0,none⟩=some (.int .i64 c1))(h1:W.cell? ⟨B,1,none⟩=some (.int .i64 c2)):Calls ν 132 #[.slice (some ⟨B,0,none⟩) 2 2] W fun e w'=>e=.returned (.int .i64 (if c1≠0 then c1 else c2))/\w'=W:=by
 go_enter Tryz.func132,Tryz.ntmps132
 go_wp2
 go_loop [5,8] (fun v i=>∃k:Nat,k<=2/\i=.int .i64 k/\(1<=k->c1=0)/\(k=2->c2=0)) (fun _ i=>2-(Go.Proofs.intOf i).toNat)
 ·exact⟨0,by omega,rfl,by omega,by omega⟩
 ·obtain⟨k,hk,rfl,fX,z2⟩:=hrel;rcases(show k=0\/k=1\/k=2 by omega)with rfl|rfl|rfl
  ·go_wp2
   case roundEnd=>exact⟨⟨1,by omega,rfl,fun _=>by simp_all,by omega⟩,by decide⟩
   all_goals (go_ret;simp_all)
  ·have kQ:=fX (by omega)
   go_wp2
   case roundEnd=>exact⟨⟨2,by omega,rfl,fun _=>kQ,fun _=>by simp_all⟩,by decide⟩
   all_goals (go_ret;simp_all)
  ·have kQ:=fX (by omega);have kR:=z2 rfl
   go_wp2
   all_goals (go_ret;simp_all)
set_option maxHeartbeats 4000000 in
theorem aB6(a b:Int)(e:TypeId)(W:World):Calls ν 132 #[.slice (some ⟨W.heap.size,0,none⟩) 2 2] (W.alloc (.cells #[.int .i64 a,.int .i64 b] e (0,0))) fun c w'=>c=.returned (.int .i64 (if a≠0 then a else b))/\w'=W.alloc (.cells #[.int .i64 a,.int .i64 b] e (0,0)) :=
 aB4 a b _ _ (P0 W _ e 0) (P0 W _ e 1)
set_option maxRecDepth 100000 in
theorem aB7(dC a2 eg e7:List UInt8)(zP tW:Bool)(W:World):Calls ν 111 #[.agg #[.string ⟨dC.toArray⟩,.string ⟨a2.toArray⟩,.bool zP],.agg #[.string ⟨eg.toArray⟩,.string ⟨e7.toArray⟩,.bool tW]] W fun e w'=>e=.returned (.int .i64 (B4 (B4 (uh dC eg) (uh a2 e7)) (if zP=tW then 0 else if tW=true then -1 else 1)))/\∃q PY,w'=Go.Sort.grow (W.drewN q) PY:=by
 have h1:=fun dF=>aeY dC eg dF;have U:=fun dF=>aeY a2 e7 dF;obtain⟨c1,kQ⟩:∃c,c=uh dC eg:=⟨_,rfl⟩;obtain⟨c2,kR⟩:∃c,c=uh a2 e7:=⟨_,rfl⟩;rw[<-kQ,<-kR];change ∀dF,Calls ν 133 _ dF fun e w'=>e=.returned (.int .i64 (uh dC eg))/\w'=dF at h1;change ∀dF,Calls ν 133 _ dF fun e w'=>e=.returned (.int .i64 (uh a2 e7))/\w'=dF at U;rw[<-kQ]at h1;rw[<-kR]at U;clear kQ kR
 go_enter Tryz.func111,Tryz.ntmps111
 go_wp2_with fail
 obtain⟨l7,P1⟩:∃l7,l7=(W.alloc (.cells #[.string ⟨dC.toArray⟩,.string ⟨a2.toArray⟩,.bool zP] 132 (0,0))).alloc (.cells #[.string ⟨eg.toArray⟩,.string ⟨e7.toArray⟩,.bool tW] 132 (0,0)):=⟨_,rfl⟩;have xT:=fun i=>aB2 W #[.string ⟨dC.toArray⟩,.string ⟨a2.toArray⟩,.bool zP] #[.string ⟨eg.toArray⟩,.string ⟨e7.toArray⟩,.bool tW] 132 i;rw[<-P1]at xT ⊢;have aC:aeV (l7=Go.Sort.grow W #[.cells #[.string ⟨dC.toArray⟩,.string ⟨a2.toArray⟩,.bool zP] 132 (0,0),.cells #[.string ⟨eg.toArray⟩,.string ⟨e7.toArray⟩,.bool tW] 132 (0,0)]):=⟨by rw[P1,Go.Sort.alloc_eq_grow,Go.Sort.alloc_eq_grow,Go.Sort.grow_grow];rfl⟩;clear P1;have f0:=fun d=>(B5 l7 d _).trans (xT 0).1;have f1:=fun d=>(B5 l7 d _).trans (xT 1).1;have f2:=fun d=>(B5 l7 d _).trans (xT 2).1;have f3:=fun d=>(B5 l7 d _).trans (xT 0).2;have f4:=fun d=>(B5 l7 d _).trans (xT 1).2;have f5:=fun d=>(B5 l7 d _).trans (xT 2).2;clear xT;simp only[List.getElem?_toArray,List.getElem?_cons_zero,List.getElem?_cons_succ]at f0 f1 f2 f3 f4 f5;refine wp_region_still_tail 10 (by kernel_rfl) (by kernel_rfl) ?_;simp only[List.take_succ_cons,List.take_zero,List.drop_succ_cons,List.drop_zero];repeat still_step
 still_call (h1 _)
 repeat still_step
 still_call (U _)
 repeat still_step
 refine wpStill_nil ?_;obtain⟨xU,E8⟩:∃xU,xU=l7.drew:=⟨_,rfl⟩;have g2:xU.cell? ⟨W.heap.size,2,none⟩=some (.bool zP):=by rw[E8];exact f2 _
 have g5:xU.cell? ⟨W.heap.size+1,2,none⟩=some (.bool tW):=by rw[E8];exact f5 _
 change wpList _ _ _ _ _ l7.drew;rw[<-E8];have Dz:aeV (xU=Go.Sort.grow (W.drewN 1) #[.cells #[.string ⟨dC.toArray⟩,.string ⟨a2.toArray⟩,.bool zP] 132 (0,0),.cells #[.string ⟨eg.toArray⟩,.string ⟨e7.toArray⟩,.bool tW] 132 (0,0)]):=⟨by rw[E8,aC.h];rfl⟩;clear E8 f0 f1 f2 f3 f4 f5 h1 U aC;have ae1:=fun o=>aeW xU o g2;have aCa:=fun o=>aeW xU o g5;clear g2 g5;have aA:=fun e=>aB6 c1 c2 e xU
 go_wp2_with (go_at_call 132;refine(aA _).mono ?_;rintro e w' ⟨rfl,rfl⟩)
 all_goals (go_ret;refine⟨?_,1,_,by rw[Dz.h,Go.Sort.alloc_eq_grow,Go.Sort.grow_grow]⟩;clear Dz ae1 aCa aA;simp_all[B4])
def aCb:Go.Shelf.Ren:=⟨fun|6=>130|15=>144|14=>143|28=>159|29=>160|20=>151|21=>152|22=>153|23=>154|24=>155|25=>156|26=>157|27=>158|46=>171|47=>172|48=>173|49=>174|50=>175|57=>179|n=>n,fun|22=>128|24=>132|25=>170|3=>3|39=>150|0=>0|53=>217|55=>219|4=>4|46=>211|45=>210|50=>119|5=>5|9=>9|66=>227|70=>231|76=>235|77=>236|n=>n,fun n=>n⟩
theorem ae2:SlLaysF0.n6 ν aCb where
 mixed:=by kernel_rfl
 f6:=⟨Tryz.f130.name,by kernel_rfl,Tryz.func130.trans (congrArg some (by kernel_rfl))⟩
 f14:=⟨Tryz.f143.name,by kernel_rfl,Tryz.func143.trans (congrArg some (by kernel_rfl))⟩
 f15:=Tryz.func144.trans (congrArg some (by kernel_rfl))
 f20:=⟨Tryz.f151.name,by kernel_rfl,Tryz.func151.trans (congrArg some (by kernel_rfl))⟩
 f21:=⟨Tryz.f152.name,by kernel_rfl,Tryz.func152.trans (congrArg some (by kernel_rfl))⟩
 f22:=⟨Tryz.f153.name,by kernel_rfl,Tryz.func153.trans (congrArg some (by kernel_rfl))⟩
 f23:=⟨Tryz.f154.name,by kernel_rfl,Tryz.func154.trans (congrArg some (by kernel_rfl))⟩
 f24:=⟨Tryz.f155.name,by kernel_rfl,Tryz.func155.trans (congrArg some (by kernel_rfl))⟩
 f25:=⟨Tryz.f156.name,by kernel_rfl,Tryz.func156.trans (congrArg some (by kernel_rfl))⟩
 f26:=⟨Tryz.f157.name,by kernel_rfl,Tryz.func157.trans (congrArg some (by kernel_rfl))⟩
 f27:=⟨Tryz.f158.name,by kernel_rfl,Tryz.func158.trans (congrArg some (by kernel_rfl))⟩
 f28:=Tryz.func159.trans (congrArg some (by kernel_rfl))
 f29:=Tryz.func160.trans (congrArg some (by kernel_rfl))
 f46:=⟨Tryz.f171.name,by kernel_rfl,Tryz.func171.trans (congrArg some (by kernel_rfl))⟩
 f47:=Tryz.func172.trans (congrArg some (by kernel_rfl))
 f48:=Tryz.func173.trans (congrArg some (by kernel_rfl))
 f49:=⟨Tryz.f174.name,by kernel_rfl,Tryz.func174.trans (congrArg some (by kernel_rfl))⟩
 f50:=⟨Tryz.f175.name,by kernel_rfl,Tryz.func175.trans (congrArg some (by kernel_rfl))⟩
 f57:=⟨Tryz.f179.name,by kernel_rfl,Tryz.func179.trans (congrArg some (by kernel_rfl))⟩
 t0:=Tryz.underlying0
 a0:=Tryz.isAgg0
 z0:=Tryz.sizeOf0
 v0:=Tryz.zeroValue0
 t3:=Tryz.underlying3
 a3:=Tryz.isAgg3
 z3:=Tryz.sizeOf3
 v3:=Tryz.zeroValue3
 t4:=Tryz.underlying4
 a4:=Tryz.isAgg4
 z4:=Tryz.sizeOf4
 v4:=Tryz.zeroValue4
 t5:=Tryz.underlying5
 a5:=Tryz.isAgg5
 z5:=Tryz.sizeOf5
 v5:=Tryz.zeroValue5
 t9:=Tryz.underlying9
 a9:=Tryz.isAgg9
 z9:=Tryz.sizeOf9
 v9:=Tryz.zeroValue9
 t22:=Tryz.underlying128
 a22:=Tryz.isAgg128
 z22:=Tryz.sizeOf128
 v22:=Tryz.zeroValue128
 t25:=Tryz.underlying170
 a25:=Tryz.isAgg170
 z25:=Tryz.sizeOf170
 v25:=Tryz.zeroValue170
 t39:=Tryz.underlying150
 a39:=Tryz.isAgg150
 z39:=Tryz.sizeOf150
 v39:=Tryz.zeroValue150
 t45:=Tryz.underlying210
 a45:=Tryz.isAgg210
 z45:=Tryz.sizeOf210
 v45:=Tryz.zeroValue210
 t46:=Tryz.underlying211
 a46:=Tryz.isAgg211
 z46:=Tryz.sizeOf211
 v46:=Tryz.zeroValue211
 t50:=Tryz.underlying119
 a50:=Tryz.isAgg119
 z50:=Tryz.sizeOf119
 v50:=Tryz.zeroValue119
 t53:=Tryz.underlying217
 a53:=Tryz.isAgg217
 z53:=Tryz.sizeOf217
 v53:=Tryz.zeroValue217
 t55:=Tryz.underlying219
 a55:=Tryz.isAgg219
 z55:=Tryz.sizeOf219
 v55:=Tryz.zeroValue219
 t66:=Tryz.underlying227
 a66:=Tryz.isAgg227
 z66:=Tryz.sizeOf227
 v66:=Tryz.zeroValue227
 t70:=Tryz.underlying231
 a70:=Tryz.isAgg231
 z70:=Tryz.sizeOf231
 v70:=Tryz.zeroValue231
 t76:=Tryz.underlying235
 a76:=Tryz.isAgg235
 z76:=Tryz.sizeOf235
 v76:=Tryz.zeroValue235
 t77:=Tryz.underlying236
 a77:=Tryz.isAgg236
 z77:=Tryz.sizeOf236
 v77:=Tryz.zeroValue236
theorem aCc(H:List ax):bn ν aB 130 [.aV 3,.fn 111 []] H fun r H'=>r=.a8 []/\H'=H:=aB1 ae2 (by kernel_rfl) H
theorem aCd(a:id<H.length){l:List bE}(cg:l.length=L)(b:L<=M) :
  bn ν aB 130 [.bs id 0 L 3,.fn 111 []] (wb 132 H id l) fun r H'=>r=.a8 []/\∃y,H'=wb 132 (H++y) id (Sort.sort pf l.toArray).toList:=by
 subst cg;refine bn.mono (aBW ae2 Tryz.isAgg132 Tryz.sizeOf132 (enters_of Tryz.func111 (by kernel_rfl) rfl) (fun x y W=>by rw[aB3];exact aB7 x.src x.dst y.src y.dst x.neg y.neg W) (by kernel_rfl) (PD a) b) ?_;rintro r H' ⟨rfl,rfl⟩;exact⟨rfl,[],by simp[wb]⟩
end AM
