/- What is known of further functions. Conditions: none. -/
import Derived.Test.YtjpfdkecffnlbaaGreatDoorW1
import Derived.Test.YtjpfdkecffnlbaaGreatDoorAm14
namespace AM
open Go Go.Proofs
open Enc (enc)
noncomputable def TB:List qY:=[(54,kf fun (t:aj)=>enc (Tx t))]
noncomputable def kh:cv:=nI kg (lv TB)
instance ara {D:cv} [h:eI D kh]:eI D kg:=h.xu
theorem TC:kQ kh ([54]++[81,126,161,132,80,51,75,122,124,34,9,76,66,157,150,158,37,12]):=kQ.or anQ (u0 TB)
end AM
