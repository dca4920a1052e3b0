/- What functions of the given program do, as calls of the machine. Conditions: names and lists are bounded where that is said. -/
import Derived.Test.YtmmplkgkkkjojaaGreatDoorE9
import Derived.Test.YtmmplkgkkkjojaaGreatDoorAm8
import Derived.Test.YtmmplkgkkkjojaaGreatDoorAm9
import Derived.Laws.Cover1
import Derived.StillTailTactics
set_option maxRecDepth 100000
set_option maxHeartbeats 4000000
set_option linter.unusedVariables false
namespace AM
open Go Go.Proofs
open Tryz renaming prog -> ν
def aIa:Go.Shelf.Ren:=⟨λ|190=>57|125=>100|258=>99|128=>148|129=>149|302=>139|303=>140|304=>141|305=>142|306=>143|307=>144|308=>145|309=>146|310=>147|333=>182|329=>183|330=>184|334=>185|335=>186|336=>155|344=>211|n=>n,λ|31=>51|9=>9|3=>3|46=>159|0=>0|51=>202|53=>204|4=>4|183=>195|182=>194|131=>191|5=>5|218=>228|222=>232|228=>257|229=>258|n=>n,λn=>n⟩
theorem ajG:Lays.n190 ν aIa where
 mixed:=by kernel_rfl
 f125:=Tryz.func100.trans (congrArg some co)
 f128:=Tryz.func148.trans (congrArg some co)
 f129:=Tryz.func149.trans (congrArg some co)
 f190:=Tryz.func57.trans (congrArg some co)
 f258:=Tryz.func99.trans (congrArg some co)
 f302:=Tryz.func139.trans (congrArg some co)
 f303:=Tryz.func140.trans (congrArg some co)
 f304:=Tryz.func141.trans (congrArg some co)
 f305:=Tryz.func142.trans (congrArg some co)
 f306:=Tryz.func143.trans (congrArg some co)
 f307:=Tryz.func144.trans (congrArg some co)
 f308:=Tryz.func145.trans (congrArg some co)
 f309:=Tryz.func146.trans (congrArg some co)
 f310:=Tryz.func147.trans (congrArg some co)
 f329:=Tryz.func183.trans (congrArg some co)
 f330:=Tryz.func184.trans (congrArg some co)
 f333:=Tryz.func182.trans (congrArg some co)
 f334:=Tryz.func185.trans (congrArg some co)
 f335:=Tryz.func186.trans (congrArg some co)
 f336:=Tryz.func155.trans (congrArg some co)
 f344:=Tryz.func211.trans (congrArg some co)
 t0:=Tryz.underlying0
 a0:=Tryz.isAgg0
 z0:=Tryz.sizeOf0
 v0:=Tryz.zeroValue0
 t3:=Tryz.underlying3
 a3:=Tryz.isAgg3
 z3:=Tryz.sizeOf3
 v3:=Tryz.zeroValue3
 t4:=Tryz.underlying4
 a4:=Tryz.isAgg4
 z4:=Tryz.sizeOf4
 v4:=Tryz.zeroValue4
 t5:=Tryz.underlying5
 a5:=Tryz.isAgg5
 z5:=Tryz.sizeOf5
 v5:=Tryz.zeroValue5
 t9:=Tryz.underlying9
 a9:=Tryz.isAgg9
 z9:=Tryz.sizeOf9
 v9:=Tryz.zeroValue9
 t31:=Tryz.underlying51
 a31:=Tryz.isAgg51
 z31:=Tryz.sizeOf51
 v31:=Tryz.zeroValue51
 t46:=Tryz.underlying159
 a46:=Tryz.isAgg159
 z46:=Tryz.sizeOf159
 v46:=Tryz.zeroValue159
 t51:=Tryz.underlying202
 a51:=Tryz.isAgg202
 z51:=Tryz.sizeOf202
 v51:=Tryz.zeroValue202
 t53:=Tryz.underlying204
 a53:=Tryz.isAgg204
 z53:=Tryz.sizeOf204
 v53:=Tryz.zeroValue204
 t131:=Tryz.underlying191
 a131:=Tryz.isAgg191
 z131:=Tryz.sizeOf191
 v131:=Tryz.zeroValue191
 t182:=Tryz.underlying194
 a182:=Tryz.isAgg194
 z182:=Tryz.sizeOf194
 v182:=Tryz.zeroValue194
 t183:=Tryz.underlying195
 a183:=Tryz.isAgg195
 z183:=Tryz.sizeOf195
 v183:=Tryz.zeroValue195
 t218:=Tryz.underlying228
 a218:=Tryz.isAgg228
 z218:=Tryz.sizeOf228
 v218:=Tryz.zeroValue228
 t222:=Tryz.underlying232
 a222:=Tryz.isAgg232
 z222:=Tryz.sizeOf232
 v222:=Tryz.zeroValue232
 t228:=Tryz.underlying257
 a228:=Tryz.isAgg257
 z228:=Tryz.sizeOf257
 v228:=Tryz.zeroValue257
 t229:=Tryz.underlying258
 a229:=Tryz.isAgg258
 z229:=Tryz.sizeOf258
 v229:=Tryz.zeroValue258
theorem aIb(H:List ay):bB ν aD 57 [.aS 1] H λr H'=>r=.bg []/\H'=H:=aHV ajG co H
variable {H:List ay}{id L:Nat}
theorem aIc(a:id<H.length){l:List ak}(cf:l.length=L)(b:L<=M) :
  bB ν aD 57 [.bI id 0 L 1] (xk 9 H id l) λr H'=>r=.bg []/\∃y,H'=xk 9 (H++y) id (Sort.sort ng l.toArray).toList:=by
 subst cf;refine bB.mono (aHT ajG co (Sc a) b) ?_;rintro r H' ⟨rfl,rfl⟩;exact⟨rfl,[],by simp[xk]⟩
open Go Go.Proofs Go.Lib
set_option maxHeartbeats 1000000 in
theorem ajM(x y:List UInt8)(W:World):Calls ν 112 #[.string ⟨x.toArray⟩,.string ⟨y.toArray⟩] W λe w'=>e=.returned (.int .i64 (if Op.bytesLess x y=true then -1 else if(Op.bytesLess x y||x==y)=false then 1 else 0))/\w'=W:=by
 go_enter Tryz.func112,Tryz.ntmps112
 go_wp2
 all_goals (go_ret;simp_all)
set_option maxHeartbeats 1000000 in
theorem aIn(c1 c2:Int)(B:Nat)(W:World)(aK:W.cell? ⟨B,0,none⟩=some (.int .i64 c1))(h1:W.cell? ⟨B,1,none⟩=some (.int .i64 c2)):Calls ν 111 #[.slice (some ⟨B,0,none⟩) 2 2] W λe w'=>e=.returned (.int .i64 (if c1≠0 then c1 else c2))/\w'=W:=by
 go_enter Tryz.func111,Tryz.ntmps111
 go_wp2
 go_loop [5,8] (λv i=>∃k:Nat,k<=2/\i=.int .i64 k/\(1<=k->c1=0)/\(k=2->c2=0)) (λ_ i=>2-(Go.Proofs.intOf i).toNat)
 ·exact⟨0,am,rfl,am,am⟩
 ·obtain⟨k,hk,rfl,gB,z2⟩:=hrel;rcases(show k=0\/k=1\/k=2 by omega)with rfl|rfl|rfl
  ·go_wp2
   case roundEnd=>exact⟨⟨1,am,rfl,λ_=>by simp_all,am⟩,dw⟩
   all_goals (go_ret;simp_all)
  ·have jD:=gB am
   go_wp2
   case roundEnd=>exact⟨⟨2,am,rfl,λ_=>jD,λ_=>by simp_all⟩,dw⟩
   all_goals (go_ret;simp_all)
  ·have jD:=gB am;have iV:=z2 rfl
   go_wp2
   all_goals (go_ret;simp_all)
set_option maxHeartbeats 4000000 in
theorem aIo(a c2:Int)(e:TypeId)(W:World):Calls ν 111 #[.slice (some ⟨W.heap.size,0,none⟩) 2 2] (W.alloc (.cells #[.int .i64 a,.int .i64 c2] e (0,0))) λb w'=>b=.returned (.int .i64 (if a≠0 then a else c2))/\w'=W.alloc (.cells #[.int .i64 a,.int .i64 c2] e (0,0)) :=
 aIn a c2 _ _ (Sx W _ e 0) (Sx W _ e 1)
set_option maxRecDepth 100000 in
theorem aIp(dL a2 dZ en:List UInt8)(A5 r0:Bool)(W:World):Calls ν 75 #[.agg #[.string ⟨dL.toArray⟩,.string ⟨a2.toArray⟩,.bool A5],.agg #[.string ⟨dZ.toArray⟩,.string ⟨en.toArray⟩,.bool r0]] W λe w'=>e=.returned (.int .i64 (Dz (Dz (vl dL dZ) (vl a2 en)) (if A5=r0 then 0 else if r0=true then -1 else 1)))/\∃q Sw,w'=Go.Sort.grow (W.drewN q) Sw:=by
 have h1:=λdY=>ajM dL dZ dY;have ab:=λdY=>ajM a2 en dY;obtain⟨c1,jD⟩:∃c,c=vl dL dZ:=⟨_,rfl⟩;obtain⟨c2,iV⟩:∃c,c=vl a2 en:=⟨_,rfl⟩;rw[<-jD,<-iV];change ∀dY,Calls ν 112 _ dY λe w'=>e=.returned (.int .i64 (vl dL dZ))/\w'=dY at h1;change ∀dY,Calls ν 112 _ dY λe w'=>e=.returned (.int .i64 (vl a2 en))/\w'=dY at ab;rw[<-jD]at h1;rw[<-iV]at ab;clear jD iV
 go_enter Tryz.func75,Tryz.ntmps75
 go_wp2_with fail
 obtain⟨mU,Sy⟩:∃mU,mU=(W.alloc (.cells #[.string ⟨dL.toArray⟩,.string ⟨a2.toArray⟩,.bool A5] 107 (0,0))).alloc (.cells #[.string ⟨dZ.toArray⟩,.string ⟨en.toArray⟩,.bool r0] 107 (0,0)):=⟨_,rfl⟩;have y3:=λi=>aIl W #[.string ⟨dL.toArray⟩,.string ⟨a2.toArray⟩,.bool A5] #[.string ⟨dZ.toArray⟩,.string ⟨en.toArray⟩,.bool r0] 107 i;rw[<-Sy]at y3 ⊢;have aF:ajJ (mU=Go.Sort.grow W #[.cells #[.string ⟨dL.toArray⟩,.string ⟨a2.toArray⟩,.bool A5] 107 (0,0),.cells #[.string ⟨dZ.toArray⟩,.string ⟨en.toArray⟩,.bool r0] 107 (0,0)]):=⟨by rw[Sy,Go.Sort.alloc_eq_grow,Go.Sort.alloc_eq_grow,Go.Sort.grow_grow];rfl⟩;clear Sy;have f0:=λd=>(DA mU d _).trans (y3 0).1;have f1:=λd=>(DA mU d _).trans (y3 1).1;have f2:=λd=>(DA mU d _).trans (y3 2).1;have f3:=λd=>(DA mU d _).trans (y3 0).2;have f4:=λd=>(DA mU d _).trans (y3 1).2;have f5:=λd=>(DA mU d _).trans (y3 2).2;clear y3;simp only[List.getElem?_toArray,List.getElem?_cons_zero,List.getElem?_cons_succ]at f0 f1 f2 f3 f4 f5;refine wp_region_still_tail 10 co co ?_;simp only[List.take_succ_cons,List.take_zero,List.drop_succ_cons,List.drop_zero];repeat still_step
 still_call (h1 _)
 repeat still_step
 still_call (ab _)
 repeat still_step
 refine wpStill_nil ?_;obtain⟨y4,GX⟩:∃y4,y4=mU.drew:=⟨_,rfl⟩;have g2:y4.cell? ⟨W.heap.size,2,none⟩=some (.bool A5):=by rw[GX];exact f2 _
 have g5:y4.cell? ⟨W.heap.size+1,2,none⟩=some (.bool r0):=by rw[GX];exact f5 _
 change wpList _ _ _ _ _ mU.drew;rw[<-GX];have Fe:ajJ (y4=Go.Sort.grow (W.drewN 1) #[.cells #[.string ⟨dL.toArray⟩,.string ⟨a2.toArray⟩,.bool A5] 107 (0,0),.cells #[.string ⟨dZ.toArray⟩,.string ⟨en.toArray⟩,.bool r0] 107 (0,0)]):=⟨by rw[GX,aF.h];rfl⟩;clear GX f0 f1 f2 f3 f4 f5 h1 ab aF;have ajN:=λo=>ajK y4 o g2;have aIq:=λo=>ajK y4 o g5;clear g2 g5;have aE:=λe=>aIo c1 c2 e y4
 go_wp2_with (go_at_call 111;refine(aE _).mono ?_;rintro e w' ⟨rfl,rfl⟩)
 all_goals (go_ret;refine⟨?_,1,_,by rw[Fe.h,Go.Sort.alloc_eq_grow,Go.Sort.grow_grow]⟩;clear Fe ajN aIq aE;simp_all[Dz])
def aIr:Go.Shelf.Ren:=⟨λ|6=>109|15=>100|14=>154|28=>148|29=>149|20=>187|21=>188|22=>189|23=>190|24=>191|25=>192|26=>193|27=>194|46=>212|47=>183|48=>184|49=>213|50=>214|57=>224|n=>n,λ|22=>54|24=>107|25=>133|3=>3|39=>159|0=>0|53=>202|55=>204|4=>4|46=>195|45=>194|50=>191|5=>5|9=>9|66=>228|70=>232|76=>257|77=>258|n=>n,λn=>n⟩
theorem ajO:SlLaysF0.n6 ν aIr where
 mixed:=by kernel_rfl
 f6:=⟨Tryz.f109.name,co,Tryz.func109.trans (congrArg some co)⟩
 f14:=⟨Tryz.f154.name,co,Tryz.func154.trans (congrArg some co)⟩
 f15:=Tryz.func100.trans (congrArg some co)
 f20:=⟨Tryz.f187.name,co,Tryz.func187.trans (congrArg some co)⟩
 f21:=⟨Tryz.f188.name,co,Tryz.func188.trans (congrArg some co)⟩
 f22:=⟨Tryz.f189.name,co,Tryz.func189.trans (congrArg some co)⟩
 f23:=⟨Tryz.f190.name,co,Tryz.func190.trans (congrArg some co)⟩
 f24:=⟨Tryz.f191.name,co,Tryz.func191.trans (congrArg some co)⟩
 f25:=⟨Tryz.f192.name,co,Tryz.func192.trans (congrArg some co)⟩
 f26:=⟨Tryz.f193.name,co,Tryz.func193.trans (congrArg some co)⟩
 f27:=⟨Tryz.f194.name,co,Tryz.func194.trans (congrArg some co)⟩
 f28:=Tryz.func148.trans (congrArg some co)
 f29:=Tryz.func149.trans (congrArg some co)
 f46:=⟨Tryz.f212.name,co,Tryz.func212.trans (congrArg some co)⟩
 f47:=Tryz.func183.trans (congrArg some co)
 f48:=Tryz.func184.trans (congrArg some co)
 f49:=⟨Tryz.f213.name,co,Tryz.func213.trans (congrArg some co)⟩
 f50:=⟨Tryz.f214.name,co,Tryz.func214.trans (congrArg some co)⟩
 f57:=⟨Tryz.f224.name,co,Tryz.func224.trans (congrArg some co)⟩
 t0:=Tryz.underlying0
 a0:=Tryz.isAgg0
 z0:=Tryz.sizeOf0
 v0:=Tryz.zeroValue0
 t3:=Tryz.underlying3
 a3:=Tryz.isAgg3
 z3:=Tryz.sizeOf3
 v3:=Tryz.zeroValue3
 t4:=Tryz.underlying4
 a4:=Tryz.isAgg4
 z4:=Tryz.sizeOf4
 v4:=Tryz.zeroValue4
 t5:=Tryz.underlying5
 a5:=Tryz.isAgg5
 z5:=Tryz.sizeOf5
 v5:=Tryz.zeroValue5
 t9:=Tryz.underlying9
 a9:=Tryz.isAgg9
 z9:=Tryz.sizeOf9
 v9:=Tryz.zeroValue9
 t22:=Tryz.underlying54
 a22:=Tryz.isAgg54
 z22:=Tryz.sizeOf54
 v22:=Tryz.zeroValue54
 t25:=Tryz.underlying133
 a25:=Tryz.isAgg133
 z25:=Tryz.sizeOf133
 v25:=Tryz.zeroValue133
 t39:=Tryz.underlying159
 a39:=Tryz.isAgg159
 z39:=Tryz.sizeOf159
 v39:=Tryz.zeroValue159
 t45:=Tryz.underlying194
 a45:=Tryz.isAgg194
 z45:=Tryz.sizeOf194
 v45:=Tryz.zeroValue194
 t46:=Tryz.underlying195
 a46:=Tryz.isAgg195
 z46:=Tryz.sizeOf195
 v46:=Tryz.zeroValue195
 t50:=Tryz.underlying191
 a50:=Tryz.isAgg191
 z50:=Tryz.sizeOf191
 v50:=Tryz.zeroValue191
 t53:=Tryz.underlying202
 a53:=Tryz.isAgg202
 z53:=Tryz.sizeOf202
 v53:=Tryz.zeroValue202
 t55:=Tryz.underlying204
 a55:=Tryz.isAgg204
 z55:=Tryz.sizeOf204
 v55:=Tryz.zeroValue204
 t66:=Tryz.underlying228
 a66:=Tryz.isAgg228
 z66:=Tryz.sizeOf228
 v66:=Tryz.zeroValue228
 t70:=Tryz.underlying232
 a70:=Tryz.isAgg232
 z70:=Tryz.sizeOf232
 v70:=Tryz.zeroValue232
 t76:=Tryz.underlying257
 a76:=Tryz.isAgg257
 z76:=Tryz.sizeOf257
 v76:=Tryz.zeroValue257
 t77:=Tryz.underlying258
 a77:=Tryz.isAgg258
 z77:=Tryz.sizeOf258
 v77:=Tryz.zeroValue258
theorem aIs(H:List ay):bB ν aD 109 [.aS 3,.fn 75 []] H λr H'=>r=.bg []/\H'=H:=aIk ajO co H
theorem aIt(a:id<H.length){l:List bR}(cf:l.length=L)(b:L<=M) :
  bB ν aD 109 [.bI id 0 L 3,.fn 75 []] (xl 107 H id l) λr H'=>r=.bg []/\∃y,H'=xl 107 (H++y) id (Sort.sort p3 l.toArray).toList:=by
 subst cf;refine bB.mono (aIf ajO Tryz.isAgg107 Tryz.sizeOf107 (enters_of Tryz.func75 co rfl) (λx y W=>by rw[aIm];exact aIp x.src x.dst y.src y.dst x.neg y.neg W) co (Sd a) b) ?_;rintro r H' ⟨rfl,rfl⟩;exact⟨rfl,[],by simp[xl]⟩
end AM
