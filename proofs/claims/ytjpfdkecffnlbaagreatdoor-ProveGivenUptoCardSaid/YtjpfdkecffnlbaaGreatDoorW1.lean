/- The calls of the functions of layer 1 and of its reference as steps. Conditions: none. -/
import Derived.Test.YtjpfdkecffnlbaaGreatDoorR4
import Derived.Test.YtjpfdkecffnlbaaGreatDoorAm14
set_option maxRecDepth 100000
set_option maxHeartbeats 400000
set_option linter.unusedSimpArgs false
set_option linter.unusedVariables false
namespace AM
open Go Go.Proofs
open Enc (enc)
noncomputable def Ke:List qY:=[(81,kf fun (s:cK)=>enc (pO s)),
 (126,kf fun (s:cK)=>enc (iP s)),
 (161,kf fun (s:cK)=>g8 s),
 (132,kf fun (s:cK)=>enc ((gV s).isSome)),
 (80,kf fun (t:aj)=>enc (uP 4 t true)),
 (51,kf fun (t:aj)=>enc (uP 4 t false)),
 (75,mL fun (t:aj) (u:aj)=>enc (bJ t u)),
 (122,mL fun (t:List aj) (u:List aj)=>enc (dm t u)),
 (124,mL fun (s:cK) (t:cK)=>enc (da s t)),
 (34,mL fun (t:aj) (u:aj)=>enc (lZ t u)),
 (9,mL fun (t:List aj) (u:List aj)=>enc (gW t u)),
 (76,kf fun (t:aj)=>enc (t)),
 (66,mL fun (t:aj) (u:aj)=>enc (bJ t u)),
 (157,kf fun (s:cK)=>enc (iP s)),
 (150,kf fun (s:cK)=>enc (pO s)),
 (158,kf fun (s:cK)=>g8 s),
 (37,mL fun (l:List aj) (t:aj)=>enc (ie l t)),
 (12,u1 fun (l:List aj) (m:List aj) (n:List aj)=>enc (g9 l m n))]
noncomputable def kg:cv:=lv Ke
theorem anQ:kQ kg [81,126,161,132,80,51,75,122,124,34,9,76,66,157,150,158,37,12]:=u0 Ke
theorem AP {f:Nat} {F:List AV→Option AV} (h:∀xs,lv Ke f xs=F xs):∀xs,kg f xs=F xs:=h
theorem anR {D:cv} [eI D kg] {x1 x2:AV} {t:aj} {u:aj} [cj x1 t] [cj x2 u] {K:AV→Prop} {tg:bA K} (h:a4 Tryz.prog bq 75 [enc t,enc u] (enc (bJ t u))):gy Tryz.prog bq D 75 [x1,x2] K tg=K (enc (bJ t u)):=AL (D':=kg) (F:=fun (t:aj) (u:aj)=>enc (bJ t u)) (AP fun _=>rfl) h
theorem anS {D:cv} [eI D kg] {x1 x2:AV} {t:List aj} {u:List aj} [cj x1 t] [cj x2 u] {K:AV→Prop} {tg:bA K} (h:a4 Tryz.prog bq 9 [enc t,enc u] (enc (gW t u))):gy Tryz.prog bq D 9 [x1,x2] K tg=K (enc (gW t u)):=AL (D':=kg) (F:=fun (t:List aj) (u:List aj)=>enc (gW t u)) (AP fun _=>rfl) h
theorem anT {D:cv} [eI D kg] {x1:AV} {t:aj} [cj x1 t] {K:AV→Prop} {tg:bA K} (h:a4 Tryz.prog bq 76 [enc t] (enc (t))):gy Tryz.prog bq D 76 [x1] K tg=K (enc (t)):=J9 (D':=kg) (F:=fun (t:aj)=>enc (t)) (AP fun _=>rfl) h
theorem anU {D:cv} [eI D kg] {x1 x2 x3:AV} {l:List aj} {m:List aj} {n:List aj} [cj x1 l] [cj x2 m] [cj x3 n] {K:AV→Prop} {tg:bA K} (h:a4 Tryz.prog bq 12 [enc l,enc m,enc n] (enc (g9 l m n))):gy Tryz.prog bq D 12 [x1,x2,x3] K tg=K (enc (g9 l m n)):=Ka (D':=kg) (F:=fun (l:List aj) (m:List aj) (n:List aj)=>enc (g9 l m n)) (AP fun _=>rfl) h
theorem anV {D:cv} [eI D kg] {x1 x2:AV} {t:aj} {u:aj} [cj x1 t] [cj x2 u]  {K:AV→Prop} {tg:bA K}:gy Tryz.prog bq D 75 [x1,x2] K tg=K (enc (bJ t u)):=anR (JT t u)
attribute [go_sem ↓ 2000] anV
theorem oC {x1 x2:AV} {t:aj} {u:aj} [cj x1 t] [cj x2 u]  {H:List aM} {K:AV→List aM→Prop} {tg:bA K} (ab:K (enc (bJ t u)) H):qZ Tryz.prog bq 75 [x1,x2] H K tg:=anP (zt Ri).1 (show a4 Tryz.prog bq 75 [enc t,enc u] (enc (bJ t u)) from JT t u) ab
theorem anW (l m:List aj):a4 Tryz.prog bq 9 [enc l,enc m] (enc (gW l m)):=by have:=al2 l m;rw [pS,pS] at this;exact this
theorem anX {D:cv} [eI D kg] {x1 x2:AV} {t:List aj} {u:List aj} [cj x1 t] [cj x2 u]  {K:AV→Prop} {tg:bA K}:gy Tryz.prog bq D 9 [x1,x2] K tg=K (enc (gW t u)):=anS (anW t u)
attribute [go_sem ↓ 2000] anX
theorem anY {D:cv} [eI D kg] {x1:AV} {t:aj} [cj x1 t]  {K:AV→Prop} {tg:bA K}:gy Tryz.prog bq D 76 [x1] K tg=K (enc (t)):=anT (SN t)
attribute [go_sem ↓ 2000] anY
theorem anZ (l m n:List aj) (R:l.length≤1000) (aa:m.length≤1000) (al:n.length≤1000):a4 Tryz.prog bq 12 [enc l,enc m,enc n] (enc (g9 l m n)):=by have:=amn l m n R aa al;rw [pS,pS,pS,pS] at this;exact this
theorem an0 {D:cv} [eI D kg] {x1 x2 x3:AV} {l:List aj} {m:List aj} {n:List aj} [cj x1 l] [cj x2 m] [cj x3 n] (R:l.length≤1000) (aa:m.length≤1000) (al:n.length≤1000) {K:AV→Prop} {tg:bA K}:gy Tryz.prog bq D 12 [x1,x2,x3] K tg=K (enc (g9 l m n)):=anU (anZ l m n R aa al)
attribute [go_sem ↓ 2000] an0
end AM
