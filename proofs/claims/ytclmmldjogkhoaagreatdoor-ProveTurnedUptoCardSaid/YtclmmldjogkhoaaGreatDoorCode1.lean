/- The program's functions as code of the abstract machine. Conditions: none; definitions alone. -/
import Derived.Test.YtclmmldjogkhoaaGreatDoorAm12
import Derived.Test.YtclmmldjogkhoaaGreatDoorAm14
import Derived.Test.YtclmmldjogkhoaaGreatDoorCode
set_option maxRecDepth 100000
namespace AM
open Go
def ar8:aG:=.drop [1,4,5,6,8,11,13,14,16,17,21,29,33,39,47,48,49,50,56,57,58,59,74] (ε [cA 39 0 38 37] [] (.seq (cD 39 0) (.seq (.block 1 (ε [bX 40 2 36 38,bL 41 40 2,gg 11 2,c6 2 11 41] [40,41] (ζ [bf 42 9 0,bl 43 42 1,bL 44 11 2,jS 45 21 43 44] 42 45))) (.ab [cR 46 0 38 1,aa 38 46] [46]))))
def ar9:aG:=.drop [1,4,5,6,7,8,11,13,16,17,21,29,33,36,37,38,39,50,59,74] (ε [cA 59 0 58 57] [] (.seq (cD 59 4) (.seq (.block 5 (ε [bX 60 1 56 58,bl 61 60 1,aa 16 61] [60,61] (ζ [bR 62 14,aa 63 0,aa 64 16,bX 65 3 63 64,bL 66 65 3,gV 67 3 66,gW 68 62 67 33 3,bR 14 68] 62 68))) (.ab [cR 69 0 58 1,aa 58 69] [69]))))
def Z7:aG:=δ [bL 70 9 1,aa 71 14,jS 72 22 70 71,aa 17 72] 70 72 (ε [aa 73 17,qE 74 0 73 0] [73] (η 74 (μ [aa 75 17,eT 4 2,aa 5 75] [75])))
def Z8:aG:=.ab [cR 76 0 49 1,aa 49 76] [76]
def asa:aG:=.drop [1,4,5,6,7,8,11,13,14,16,17,21,29,33,36,37,38,39,50,56,57,58,59,74] (ε [cA 50 0 49 48] [] (.seq (cD 50 2) (.seq (.block 3 (ε [bX 51 1 47 49,bl 52 51 1,bR 13 52] [51,52] (δ [aa 53 13,bS 54 1 53,⟨none,.q3 55 (.t 54) 33 3⟩,bR 14 55] 53 55 (.seq (ε [aa 56 13,bS 57 1 56,bt 58 0] [] (θ 4 ar9)) Z7)))) Z8)))
def Z9:aG:=κ [bf 77 9 0,bl 78 77 1,ka 79 24 78,ka 80 23 79,bR 4 80,bt 5 0] 77 80
def aaa:aG:=.seq (ε [aa 47 7,bS 48 1 47,bt 49 0] [] (θ 2 asa)) Z9
def aab:aG:=ε [eT 4 2,bt 5 0] [] (.seq (ε [aa 18 0,dY 19 17 18,aa 6 19] [18,19] (ε [aa 20 6,qE 21 0 20 0] [20] (η 21 (μ [aa 22 6,eT 4 2,aa 5 22] [22])))) (δ [aa 24 0,dY 25 18 24,aa 23 25,dv 26 23 0,dv 27 23 1,bR 7 26,aa 8 27] 23 27 (.seq (ε [aa 28 8,qE 29 0 28 0] [28] (η 29 (μ [aa 30 8,eT 4 2,aa 5 30] [30]))) (.seq (ε [aa 31 1,dY 32 19 31,gf 33 32] [31,32] (η 33 (μ [eT 4 2,bt 5 13] []))) (ε [Hs 34 20,ML 35 0 1 34,⟨none,.alloc 9 [.eP]⟩,c6 1 9 35] [34,35] (.seq (ε [aa 36 1,bS 37 1 36,bt 38 0] [] (θ 0 ar8)) aaa))))))
def aac:List bF:=[.t 4,.t 5]
def asb:aG:=.drop [0,2,4,5,12] (ε [cA 12 0 11 10] [] (.seq (cD 12 0) (.seq (.block 1 (δ [aa 13 11,bX 14 2 9 11,bL 15 14 2,gg 5 2,aa 4 13,c6 2 5 15] 13 15 (ζ [aa 16 3,aa 17 4,bf 18 5 0,dK 2 19 18 1,bf 20 5 1,dK 2 21 20 1,dY 22 23 21,Hy 23 2 0 1 19 1 1 22,bX 24 2 16 17,mN 4 2 24 23] 16 24))) (.ab [cR 25 0 11 1,aa 11 25] [25]))))
def aad:aG:=μ [bR 26 3,bR 2 26] [26]
def aae:aG:=ε [eT 2 2] [] (δ [aa 6 0,bS 7 1 6,Hz 8 30 2 7,bR 3 8] 6 8 (.seq (ε [aa 9 0,bS 10 1 9,bt 11 0] [] (θ 0 asb)) aad))
def aaf:List bF:=[.t 2]
end AM
