/- What functions of the given program do, as calls of the machine. Conditions: names and lists are bounded where that is said. -/
import Derived.Test.YtljpaghckmbmlaaGreatDoorE9
import Derived.Test.YtljpaghckmbmlaaGreatDoorAm8
import Derived.Test.YtljpaghckmbmlaaGreatDoorAm9
import Derived.Laws.Cover1
import Derived.StillTailTactics
set_option maxRecDepth 100000
set_option maxHeartbeats 4000000
set_option linter.unusedVariables false
namespace AM
open Go Go.Proofs
open Tryz renaming prog -> ν
def aIa:Go.Shelf.Ren:=⟨λ|190=>209|125=>213|258=>219|128=>228|129=>229|302=>231|303=>232|304=>233|305=>234|306=>235|307=>236|308=>237|309=>238|310=>239|333=>245|329=>241|330=>242|334=>246|335=>247|336=>214|344=>249|n=>n,λ|31=>116|9=>9|3=>3|46=>167|0=>0|51=>236|53=>238|4=>4|183=>230|182=>229|131=>125|5=>5|218=>246|222=>250|228=>254|229=>255|n=>n,λn=>n⟩
theorem ajG:Lays.n190 ν aIa where
 mixed:=by kernel_rfl
 f125:=Tryz.func213.trans (congrArg some d6)
 f128:=Tryz.func228.trans (congrArg some d6)
 f129:=Tryz.func229.trans (congrArg some d6)
 f190:=Tryz.func209.trans (congrArg some d6)
 f258:=Tryz.func219.trans (congrArg some d6)
 f302:=Tryz.func231.trans (congrArg some d6)
 f303:=Tryz.func232.trans (congrArg some d6)
 f304:=Tryz.func233.trans (congrArg some d6)
 f305:=Tryz.func234.trans (congrArg some d6)
 f306:=Tryz.func235.trans (congrArg some d6)
 f307:=Tryz.func236.trans (congrArg some d6)
 f308:=Tryz.func237.trans (congrArg some d6)
 f309:=Tryz.func238.trans (congrArg some d6)
 f310:=Tryz.func239.trans (congrArg some d6)
 f329:=Tryz.func241.trans (congrArg some d6)
 f330:=Tryz.func242.trans (congrArg some d6)
 f333:=Tryz.func245.trans (congrArg some d6)
 f334:=Tryz.func246.trans (congrArg some d6)
 f335:=Tryz.func247.trans (congrArg some d6)
 f336:=Tryz.func214.trans (congrArg some d6)
 f344:=Tryz.func249.trans (congrArg some d6)
 t0:=Tryz.underlying0
 a0:=Tryz.isAgg0
 z0:=Tryz.sizeOf0
 v0:=Tryz.zeroValue0
 t3:=Tryz.underlying3
 a3:=Tryz.isAgg3
 z3:=Tryz.sizeOf3
 v3:=Tryz.zeroValue3
 t4:=Tryz.underlying4
 a4:=Tryz.isAgg4
 z4:=Tryz.sizeOf4
 v4:=Tryz.zeroValue4
 t5:=Tryz.underlying5
 a5:=Tryz.isAgg5
 z5:=Tryz.sizeOf5
 v5:=Tryz.zeroValue5
 t9:=Tryz.underlying9
 a9:=Tryz.isAgg9
 z9:=Tryz.sizeOf9
 v9:=Tryz.zeroValue9
 t31:=Tryz.underlying116
 a31:=Tryz.isAgg116
 z31:=Tryz.sizeOf116
 v31:=Tryz.zeroValue116
 t46:=Tryz.underlying167
 a46:=Tryz.isAgg167
 z46:=Tryz.sizeOf167
 v46:=Tryz.zeroValue167
 t51:=Tryz.underlying236
 a51:=Tryz.isAgg236
 z51:=Tryz.sizeOf236
 v51:=Tryz.zeroValue236
 t53:=Tryz.underlying238
 a53:=Tryz.isAgg238
 z53:=Tryz.sizeOf238
 v53:=Tryz.zeroValue238
 t131:=Tryz.underlying125
 a131:=Tryz.isAgg125
 z131:=Tryz.sizeOf125
 v131:=Tryz.zeroValue125
 t182:=Tryz.underlying229
 a182:=Tryz.isAgg229
 z182:=Tryz.sizeOf229
 v182:=Tryz.zeroValue229
 t183:=Tryz.underlying230
 a183:=Tryz.isAgg230
 z183:=Tryz.sizeOf230
 v183:=Tryz.zeroValue230
 t218:=Tryz.underlying246
 a218:=Tryz.isAgg246
 z218:=Tryz.sizeOf246
 v218:=Tryz.zeroValue246
 t222:=Tryz.underlying250
 a222:=Tryz.isAgg250
 z222:=Tryz.sizeOf250
 v222:=Tryz.zeroValue250
 t228:=Tryz.underlying254
 a228:=Tryz.isAgg254
 z228:=Tryz.sizeOf254
 v228:=Tryz.zeroValue254
 t229:=Tryz.underlying255
 a229:=Tryz.isAgg255
 z229:=Tryz.sizeOf255
 v229:=Tryz.zeroValue255
theorem aIb(H:List ay):bB ν aD 209 [.aS 1] H λr H'=>r=.bg []/\H'=H:=aHV ajG d6 H
variable {H:List ay}{id L:Nat}
theorem aIc(a:id<H.length){l:List ak}(cf:l.length=L)(b:L<=M) :
  bB ν aD 209 [.bI id 0 L 1] (xk 9 H id l) λr H'=>r=.bg []/\∃y,H'=xk 9 (H++y) id (Sort.sort ng l.toArray).toList:=by
 subst cf;refine bB.mono (aHT ajG d6 (Sc a) b) ?_;rintro r H' ⟨rfl,rfl⟩;exact⟨rfl,[],by simp[xk]⟩
open Go Go.Proofs Go.Lib
set_option maxHeartbeats 1000000 in
theorem ajM(x y:List UInt8)(W:World):Calls ν 196 #[.string ⟨x.toArray⟩,.string ⟨y.toArray⟩] W λe w'=>e=.returned (.int .i64 (if Op.bytesLess x y=true then -1 else if(Op.bytesLess x y||x==y)=false then 1 else 0))/\w'=W:=by
 go_enter Tryz.func196,Tryz.ntmps196
 go_wp2
 all_goals (go_ret;simp_all)
set_option maxHeartbeats 1000000 in
theorem aIn(c1 c2:Int)(B:Nat)(W:World)(aK:W.cell? ⟨B,0,none⟩=some (.int .i64 c1))(h1:W.cell? ⟨B,1,none⟩=some (.int .i64 c2)):Calls ν 195 #[.slice (some ⟨B,0,none⟩) 2 2] W λe w'=>e=.returned (.int .i64 (if c1≠0 then c1 else c2))/\w'=W:=by
 go_enter Tryz.func195,Tryz.ntmps195
 go_wp2
 go_loop [5,8] (λv i=>∃k:Nat,k<=2/\i=.int .i64 k/\(1<=k->c1=0)/\(k=2->c2=0)) (λ_ i=>2-(Go.Proofs.intOf i).toNat)
 ·exact⟨0,am,rfl,am,am⟩
 ·obtain⟨k,hk,rfl,gB,z2⟩:=hrel;rcases(show k=0\/k=1\/k=2 by omega)with rfl|rfl|rfl
  ·go_wp2
   case roundEnd=>exact⟨⟨1,am,rfl,λ_=>by simp_all,am⟩,dw⟩
   all_goals (go_ret;simp_all)
  ·have jD:=gB am
   go_wp2
   case roundEnd=>exact⟨⟨2,am,rfl,λ_=>jD,λ_=>by simp_all⟩,dw⟩
   all_goals (go_ret;simp_all)
  ·have jD:=gB am;have iV:=z2 rfl
   go_wp2
   all_goals (go_ret;simp_all)
set_option maxHeartbeats 4000000 in
theorem aIo(a c2:Int)(e:TypeId)(W:World):Calls ν 195 #[.slice (some ⟨W.heap.size,0,none⟩) 2 2] (W.alloc (.cells #[.int .i64 a,.int .i64 c2] e (0,0))) λb w'=>b=.returned (.int .i64 (if a≠0 then a else c2))/\w'=W.alloc (.cells #[.int .i64 a,.int .i64 c2] e (0,0)) :=
 aIn a c2 _ _ (Sx W _ e 0) (Sx W _ e 1)
set_option maxRecDepth 100000 in
theorem aIp(dL a2 dZ en:List UInt8)(A5 vc:Bool)(W:World):Calls ν 161 #[.agg #[.string ⟨dL.toArray⟩,.string ⟨a2.toArray⟩,.bool A5],.agg #[.string ⟨dZ.toArray⟩,.string ⟨en.toArray⟩,.bool vc]] W λe w'=>e=.returned (.int .i64 (Dz (Dz (vl dL dZ) (vl a2 en)) (if A5=vc then 0 else if vc=true then -1 else 1)))/\∃q Sw,w'=Go.Sort.grow (W.drewN q) Sw:=by
 have h1:=λdY=>ajM dL dZ dY;have ab:=λdY=>ajM a2 en dY;obtain⟨c1,jD⟩:∃c,c=vl dL dZ:=⟨_,rfl⟩;obtain⟨c2,iV⟩:∃c,c=vl a2 en:=⟨_,rfl⟩;rw[<-jD,<-iV];change ∀dY,Calls ν 196 _ dY λe w'=>e=.returned (.int .i64 (vl dL dZ))/\w'=dY at h1;change ∀dY,Calls ν 196 _ dY λe w'=>e=.returned (.int .i64 (vl a2 en))/\w'=dY at ab;rw[<-jD]at h1;rw[<-iV]at ab;clear jD iV
 go_enter Tryz.func161,Tryz.ntmps161
 go_wp2_with fail
 obtain⟨mU,Sy⟩:∃mU,mU=(W.alloc (.cells #[.string ⟨dL.toArray⟩,.string ⟨a2.toArray⟩,.bool A5] 141 (0,0))).alloc (.cells #[.string ⟨dZ.toArray⟩,.string ⟨en.toArray⟩,.bool vc] 141 (0,0)):=⟨_,rfl⟩;have y3:=λi=>aIl W #[.string ⟨dL.toArray⟩,.string ⟨a2.toArray⟩,.bool A5] #[.string ⟨dZ.toArray⟩,.string ⟨en.toArray⟩,.bool vc] 141 i;rw[<-Sy]at y3 ⊢;have aF:ajJ (mU=Go.Sort.grow W #[.cells #[.string ⟨dL.toArray⟩,.string ⟨a2.toArray⟩,.bool A5] 141 (0,0),.cells #[.string ⟨dZ.toArray⟩,.string ⟨en.toArray⟩,.bool vc] 141 (0,0)]):=⟨by rw[Sy,Go.Sort.alloc_eq_grow,Go.Sort.alloc_eq_grow,Go.Sort.grow_grow];rfl⟩;clear Sy;have f0:=λd=>(DA mU d _).trans (y3 0).1;have f1:=λd=>(DA mU d _).trans (y3 1).1;have f2:=λd=>(DA mU d _).trans (y3 2).1;have f3:=λd=>(DA mU d _).trans (y3 0).2;have f4:=λd=>(DA mU d _).trans (y3 1).2;have f5:=λd=>(DA mU d _).trans (y3 2).2;clear y3;simp only[List.getElem?_toArray,List.getElem?_cons_zero,List.getElem?_cons_succ]at f0 f1 f2 f3 f4 f5;refine wp_region_still_tail 10 d6 d6 ?_;simp only[List.take_succ_cons,List.take_zero,List.drop_succ_cons,List.drop_zero];repeat still_step
 still_call (h1 _)
 repeat still_step
 still_call (ab _)
 repeat still_step
 refine wpStill_nil ?_;obtain⟨y4,GX⟩:∃y4,y4=mU.drew:=⟨_,rfl⟩;have g2:y4.cell? ⟨W.heap.size,2,none⟩=some (.bool A5):=by rw[GX];exact f2 _
 have g5:y4.cell? ⟨W.heap.size+1,2,none⟩=some (.bool vc):=by rw[GX];exact f5 _
 change wpList _ _ _ _ _ mU.drew;rw[<-GX];have Fe:ajJ (y4=Go.Sort.grow (W.drewN 1) #[.cells #[.string ⟨dL.toArray⟩,.string ⟨a2.toArray⟩,.bool A5] 141 (0,0),.cells #[.string ⟨dZ.toArray⟩,.string ⟨en.toArray⟩,.bool vc] 141 (0,0)]):=⟨by rw[GX,aF.h];rfl⟩;clear GX f0 f1 f2 f3 f4 f5 h1 ab aF;have ajN:=λo=>ajK y4 o g2;have aIq:=λo=>ajK y4 o g5;clear g2 g5;have aE:=λe=>aIo c1 c2 e y4
 go_wp2_with (go_at_call 195;refine(aE _).mono ?_;rintro e w' ⟨rfl,rfl⟩)
 all_goals (go_ret;refine⟨?_,1,_,by rw[Fe.h,Go.Sort.alloc_eq_grow,Go.Sort.grow_grow]⟩;clear Fe ajN aIq aE;simp_all[Dz])
def aIr:Go.Shelf.Ren:=⟨λ|6=>193|15=>213|14=>212|28=>228|29=>229|20=>220|21=>221|22=>222|23=>223|24=>224|25=>225|26=>226|27=>227|46=>240|47=>241|48=>242|49=>243|50=>244|57=>248|n=>n,λ|22=>137|24=>141|25=>184|3=>3|39=>167|0=>0|53=>236|55=>238|4=>4|46=>230|45=>229|50=>125|5=>5|9=>9|66=>246|70=>250|76=>254|77=>255|n=>n,λn=>n⟩
theorem ajO:SlLaysF0.n6 ν aIr where
 mixed:=by kernel_rfl
 f6:=⟨Tryz.f193.name,d6,Tryz.func193.trans (congrArg some d6)⟩
 f14:=⟨Tryz.f212.name,d6,Tryz.func212.trans (congrArg some d6)⟩
 f15:=Tryz.func213.trans (congrArg some d6)
 f20:=⟨Tryz.f220.name,d6,Tryz.func220.trans (congrArg some d6)⟩
 f21:=⟨Tryz.f221.name,d6,Tryz.func221.trans (congrArg some d6)⟩
 f22:=⟨Tryz.f222.name,d6,Tryz.func222.trans (congrArg some d6)⟩
 f23:=⟨Tryz.f223.name,d6,Tryz.func223.trans (congrArg some d6)⟩
 f24:=⟨Tryz.f224.name,d6,Tryz.func224.trans (congrArg some d6)⟩
 f25:=⟨Tryz.f225.name,d6,Tryz.func225.trans (congrArg some d6)⟩
 f26:=⟨Tryz.f226.name,d6,Tryz.func226.trans (congrArg some d6)⟩
 f27:=⟨Tryz.f227.name,d6,Tryz.func227.trans (congrArg some d6)⟩
 f28:=Tryz.func228.trans (congrArg some d6)
 f29:=Tryz.func229.trans (congrArg some d6)
 f46:=⟨Tryz.f240.name,d6,Tryz.func240.trans (congrArg some d6)⟩
 f47:=Tryz.func241.trans (congrArg some d6)
 f48:=Tryz.func242.trans (congrArg some d6)
 f49:=⟨Tryz.f243.name,d6,Tryz.func243.trans (congrArg some d6)⟩
 f50:=⟨Tryz.f244.name,d6,Tryz.func244.trans (congrArg some d6)⟩
 f57:=⟨Tryz.f248.name,d6,Tryz.func248.trans (congrArg some d6)⟩
 t0:=Tryz.underlying0
 a0:=Tryz.isAgg0
 z0:=Tryz.sizeOf0
 v0:=Tryz.zeroValue0
 t3:=Tryz.underlying3
 a3:=Tryz.isAgg3
 z3:=Tryz.sizeOf3
 v3:=Tryz.zeroValue3
 t4:=Tryz.underlying4
 a4:=Tryz.isAgg4
 z4:=Tryz.sizeOf4
 v4:=Tryz.zeroValue4
 t5:=Tryz.underlying5
 a5:=Tryz.isAgg5
 z5:=Tryz.sizeOf5
 v5:=Tryz.zeroValue5
 t9:=Tryz.underlying9
 a9:=Tryz.isAgg9
 z9:=Tryz.sizeOf9
 v9:=Tryz.zeroValue9
 t22:=Tryz.underlying137
 a22:=Tryz.isAgg137
 z22:=Tryz.sizeOf137
 v22:=Tryz.zeroValue137
 t25:=Tryz.underlying184
 a25:=Tryz.isAgg184
 z25:=Tryz.sizeOf184
 v25:=Tryz.zeroValue184
 t39:=Tryz.underlying167
 a39:=Tryz.isAgg167
 z39:=Tryz.sizeOf167
 v39:=Tryz.zeroValue167
 t45:=Tryz.underlying229
 a45:=Tryz.isAgg229
 z45:=Tryz.sizeOf229
 v45:=Tryz.zeroValue229
 t46:=Tryz.underlying230
 a46:=Tryz.isAgg230
 z46:=Tryz.sizeOf230
 v46:=Tryz.zeroValue230
 t50:=Tryz.underlying125
 a50:=Tryz.isAgg125
 z50:=Tryz.sizeOf125
 v50:=Tryz.zeroValue125
 t53:=Tryz.underlying236
 a53:=Tryz.isAgg236
 z53:=Tryz.sizeOf236
 v53:=Tryz.zeroValue236
 t55:=Tryz.underlying238
 a55:=Tryz.isAgg238
 z55:=Tryz.sizeOf238
 v55:=Tryz.zeroValue238
 t66:=Tryz.underlying246
 a66:=Tryz.isAgg246
 z66:=Tryz.sizeOf246
 v66:=Tryz.zeroValue246
 t70:=Tryz.underlying250
 a70:=Tryz.isAgg250
 z70:=Tryz.sizeOf250
 v70:=Tryz.zeroValue250
 t76:=Tryz.underlying254
 a76:=Tryz.isAgg254
 z76:=Tryz.sizeOf254
 v76:=Tryz.zeroValue254
 t77:=Tryz.underlying255
 a77:=Tryz.isAgg255
 z77:=Tryz.sizeOf255
 v77:=Tryz.zeroValue255
theorem aIs(H:List ay):bB ν aD 193 [.aS 3,.fn 161 []] H λr H'=>r=.bg []/\H'=H:=aIk ajO d6 H
theorem aIt(a:id<H.length){l:List bR}(cf:l.length=L)(b:L<=M) :
  bB ν aD 193 [.bI id 0 L 3,.fn 161 []] (xl 141 H id l) λr H'=>r=.bg []/\∃y,H'=xl 141 (H++y) id (Sort.sort p3 l.toArray).toList:=by
 subst cf;refine bB.mono (aIf ajO Tryz.isAgg141 Tryz.sizeOf141 (enters_of Tryz.func161 d6 rfl) (λx y W=>by rw[aIm];exact aIp x.src x.dst y.src y.dst x.neg y.neg W) d6 (Sd a) b) ?_;rintro r H' ⟨rfl,rfl⟩;exact⟨rfl,[],by simp[xl]⟩
end AM
