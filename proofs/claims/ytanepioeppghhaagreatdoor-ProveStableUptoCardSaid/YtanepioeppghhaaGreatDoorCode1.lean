/- The program's functions as code of the abstract machine. Conditions: none; definitions alone. -/
import Derived.Test.YtanepioeppghhaaGreatDoorAm12
import Derived.Test.YtanepioeppghhaaGreatDoorAm14
import Derived.Test.YtanepioeppghhaaGreatDoorCode
set_option maxRecDepth 100000
namespace AM
open Go
def aJh:aG:=.drop [1,4,5,6,8,11,13,14,16,17,21,29,33,39,47,48,49,50,56,57,58,59,74] (ε [dK 39 0 38 37] [] (.seq (cD 39 0) (.seq (.block 1 (ε [bX 40 2 36 38,bR 41 40 2,pO 11 2,c6 2 11 41] [40,41] (ζ [bf 42 9 0,bl 43 42 1,bR 44 11 2,jm 45 24 43 44] 42 45))) (.ab [bL 46 0 38 1,aa 38 46] [46]))))
def aJi:aG:=.drop [1,4,5,6,7,8,11,13,16,17,21,29,33,36,37,38,39,50,59,74] (ε [dK 59 0 58 57] [] (.seq (cD 59 4) (.seq (.block 5 (ε [bX 60 1 56 58,bl 61 60 1,aa 16 61] [60,61] (ζ [bS 62 14,aa 63 0,aa 64 16,bX 65 3 63 64,bR 66 65 3,gW 67 3 66,hK 68 62 67 35 3,bS 14 68] 62 68))) (.ab [bL 69 0 58 1,aa 58 69] [69]))))
def arl:aG:=δ [bR 70 9 1,aa 71 14,jm 72 25 70 71,aa 17 72] 70 72 (ε [aa 73 17,lH 74 0 73 0] [73] (η 74 (μ [aa 75 17,eT 4 2,aa 5 75] [75])))
def arn:aG:=.ab [bL 76 0 49 1,aa 49 76] [76]
def aJj:aG:=.drop [1,4,5,6,7,8,11,13,14,16,17,21,29,33,36,37,38,39,50,56,57,58,59,74] (ε [dK 50 0 49 48] [] (.seq (cD 50 2) (.seq (.block 3 (ε [bX 51 1 47 49,bl 52 51 1,bS 13 52] [51,52] (δ [aa 53 13,cR 54 1 53,⟨none,.q3 55 (.t 54) 35 3⟩,bS 14 55] 53 55 (.seq (ε [aa 56 13,cR 57 1 56,bt 58 0] [] (θ 4 aJi)) arl)))) arn)))
def arq:aG:=κ [bf 77 9 0,bl 78 77 1,DK 79 27 78,DK 80 26 79,bS 4 80,bt 5 0] 77 80
def art:aG:=.seq (ε [aa 47 7,cR 48 1 47,bt 49 0] [] (θ 2 aJj)) arq
def arw:aG:=ε [eT 4 2,bt 5 0] [] (.seq (ε [aa 18 0,mN 19 20 18,aa 6 19] [18,19] (ε [aa 20 6,lH 21 0 20 0] [20] (η 21 (μ [aa 22 6,eT 4 2,aa 5 22] [22])))) (δ [aa 24 0,mN 25 21 24,aa 23 25,dv 26 23 0,dv 27 23 1,bS 7 26,aa 8 27] 23 27 (.seq (ε [aa 28 8,lH 29 0 28 0] [28] (η 29 (μ [aa 30 8,eT 4 2,aa 5 30] [30]))) (.seq (ε [aa 31 1,mN 32 22 31,fR 33 32] [31,32] (η 33 (μ [eT 4 2,bt 5 13] []))) (ε [DP 34 23,Hy 35 0 1 34,⟨none,.alloc 9 [.eP]⟩,c6 1 9 35] [34,35] (.seq (ε [aa 36 1,cR 37 1 36,bt 38 0] [] (θ 0 aJh)) art))))))
def arx:List bF:=[.t 4,.t 5]
def aJk:aG:=.drop [0,2,4,5,12] (ε [dK 12 0 11 10] [] (.seq (cD 12 0) (.seq (.block 1 (δ [aa 13 11,bX 14 2 9 11,bR 15 14 2,pO 5 2,aa 4 13,c6 2 5 15] 13 15 (ζ [aa 16 3,aa 17 4,bf 18 5 0,cA 2 19 18 1,bf 20 5 1,cA 2 21 20 1,mN 22 26 21,HA 23 2 0 1 19 1 1 22,bX 24 2 16 17,pN 4 2 24 23] 16 24))) (.ab [bL 25 0 11 1,aa 11 25] [25]))))
def ary:aG:=μ [bS 26 3,bS 2 26] [26]
def arz:aG:=ε [eT 2 2] [] (δ [aa 6 0,cR 7 1 6,HB 8 32 2 7,bS 3 8] 6 8 (.seq (ε [aa 9 0,cR 10 1 9,bt 11 0] [] (θ 0 aJk)) ary))
def arE:List bF:=[.t 2]
end AM
