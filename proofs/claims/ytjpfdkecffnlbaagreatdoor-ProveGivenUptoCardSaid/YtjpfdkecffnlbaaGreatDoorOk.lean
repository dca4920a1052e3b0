/- The program's functions do what their code in the abstract machine says. Conditions: none. -/
import Derived.Test.YtjpfdkecffnlbaaGreatDoorBase
import Derived.KernelRfl
set_option maxRecDepth 100000
namespace AM
open Go Go.Proofs
theorem Ar:a8 Tryz.prog 4 3 xb xc=true:=by kernel_rfl
theorem QG:a8 Tryz.prog 6 0 FJ FK=true:=by kernel_rfl
theorem ala:a8 Tryz.prog 7 2 PV PW=true:=by kernel_rfl
theorem alb:a8 Tryz.prog 9 2 PY z3=true:=by kernel_rfl
theorem QH:a8 Tryz.prog 10 2 FL uz=true:=by kernel_rfl
theorem JD:a8 Tryz.prog 11 3 z4 sm=true:=by kernel_rfl
theorem alc:a8 Tryz.prog 12 3 P0 xf=true:=by kernel_rfl
theorem QI:a8 Tryz.prog 15 1 FN FO=true:=by kernel_rfl
theorem QJ:a8 Tryz.prog 16 1 FP FQ=true:=by kernel_rfl
theorem QK:a8 Tryz.prog 17 3 FR FT=true:=by kernel_rfl
theorem QL:a8 Tryz.prog 18 2 FU FV=true:=by kernel_rfl
theorem QM:a8 Tryz.prog 19 3 FW FX=true:=by kernel_rfl
theorem QN:a8 Tryz.prog 20 1 FY FZ=true:=by kernel_rfl
theorem QO:a8 Tryz.prog 21 1 F0 F1=true:=by kernel_rfl
theorem QP:a8 Tryz.prog 22 1 F2 F3=true:=by kernel_rfl
theorem QQ:a8 Tryz.prog 23 0 F4 F5=true:=by kernel_rfl
theorem QR:a8 Tryz.prog 24 2 F6 F7=true:=by kernel_rfl
theorem QS:a8 Tryz.prog 25 2 F8 F9=true:=by kernel_rfl
theorem QT:a8 Tryz.prog 26 1 Ga xg=true:=by kernel_rfl
theorem QU:a8 Tryz.prog 27 1 Gb Gc=true:=by kernel_rfl
theorem JE:a8 Tryz.prog 34 2 z6 z7=true:=by kernel_rfl
theorem ald:a8 Tryz.prog 35 2 P1 P2=true:=by kernel_rfl
theorem QV:a8 Tryz.prog 36 1 Gd pL=true:=by kernel_rfl
theorem ale:a8 Tryz.prog 37 2 P4 z8=true:=by kernel_rfl
theorem QW:a8 Tryz.prog 43 1 Ge Gf=true:=by kernel_rfl
theorem QX:a8 Tryz.prog 44 2 Gg Gh=true:=by kernel_rfl
theorem QY:a8 Tryz.prog 45 2 Gi Gj=true:=by kernel_rfl
theorem QZ:a8 Tryz.prog 46 2 Gk Gl=true:=by kernel_rfl
theorem Q0:a8 Tryz.prog 47 1 Gm Gn=true:=by kernel_rfl
theorem Q1:a8 Tryz.prog 48 2 Gp Gq=true:=by kernel_rfl
theorem Q2:a8 Tryz.prog 49 2 Gr Gs=true:=by kernel_rfl
theorem Q3:a8 Tryz.prog 50 3 Gt Gu=true:=by kernel_rfl
theorem Q4:a8 Tryz.prog 51 1 Gv Gw=true:=by kernel_rfl
theorem Q5:a8 Tryz.prog 52 3 Gx Gy=true:=by kernel_rfl
theorem Q6:a8 Tryz.prog 53 3 Gz GA=true:=by kernel_rfl
theorem Q7:a8 Tryz.prog 54 1 GB GC=true:=by kernel_rfl
theorem Q8:a8 Tryz.prog 55 2 GD GF=true:=by kernel_rfl
theorem Q9:a8 Tryz.prog 56 1 GG GH=true:=by kernel_rfl
theorem Ra:a8 Tryz.prog 57 1 GI GJ=true:=by kernel_rfl
theorem Rb:a8 Tryz.prog 58 2 GK GL=true:=by kernel_rfl
theorem Rc:a8 Tryz.prog 59 2 GM GN=true:=by kernel_rfl
theorem Rd:a8 Tryz.prog 60 1 GO GP=true:=by kernel_rfl
theorem Re:a8 Tryz.prog 61 1 GQ GR=true:=by kernel_rfl
theorem Rf:a8 Tryz.prog 62 2 GS GU=true:=by kernel_rfl
theorem alf:a8 Tryz.prog 66 2 P5 uA=true:=by kernel_rfl
theorem Rg:a8 Tryz.prog 72 3 GV uC=true:=by kernel_rfl
theorem Rh:a8 Tryz.prog 73 1 GW uD=true:=by kernel_rfl
theorem As:a8 Tryz.prog 74 2 xh uE=true:=by kernel_rfl
theorem Ri:a8 Tryz.prog 75 2 P6 uF=true:=by kernel_rfl
theorem JF:a8 Tryz.prog 76 1 z9 uG=true:=by kernel_rfl
theorem Rj:a8 Tryz.prog 79 1 GX GY=true:=by kernel_rfl
theorem Rk:a8 Tryz.prog 80 1 GZ G0=true:=by kernel_rfl
theorem Rl:a8 Tryz.prog 81 1 G1 G2=true:=by kernel_rfl
theorem Rm:a8 Tryz.prog 82 2 G3 G4=true:=by kernel_rfl
theorem Rn:a8 Tryz.prog 83 1 G5 G6=true:=by kernel_rfl
theorem Ro:a8 Tryz.prog 84 3 G7 G8=true:=by kernel_rfl
theorem Rp:a8 Tryz.prog 85 1 G9 Ha=true:=by kernel_rfl
theorem Rq:a8 Tryz.prog 86 3 Hb Hc=true:=by kernel_rfl
theorem Rr:a8 Tryz.prog 87 1 Hd He=true:=by kernel_rfl
theorem Rs:a8 Tryz.prog 88 8 Hf Hg=true:=by kernel_rfl
theorem Rt:a8 Tryz.prog 89 3 Hh Hi=true:=by kernel_rfl
theorem Ru:a8 Tryz.prog 90 2 Hj Hk=true:=by kernel_rfl
theorem Rv:a8 Tryz.prog 91 3 Hl Hm=true:=by kernel_rfl
theorem Rw:a8 Tryz.prog 92 2 Hn Ho=true:=by kernel_rfl
theorem Rx:a8 Tryz.prog 93 3 Hp Hq=true:=by kernel_rfl
theorem Ry:a8 Tryz.prog 94 1 Hr Hs=true:=by kernel_rfl
theorem Rz:a8 Tryz.prog 95 2 Ht Hu=true:=by kernel_rfl
theorem RA:a8 Tryz.prog 96 1 Hv Hw=true:=by kernel_rfl
theorem RB:a8 Tryz.prog 97 1 Hx Hy=true:=by kernel_rfl
theorem RC:a8 Tryz.prog 98 1 Hz HA=true:=by kernel_rfl
theorem RD:a8 Tryz.prog 99 1 HB HC=true:=by kernel_rfl
theorem RE:a8 Tryz.prog 100 1 HD HE=true:=by kernel_rfl
theorem RF:a8 Tryz.prog 101 2 HF HG=true:=by kernel_rfl
theorem RG:a8 Tryz.prog 102 2 HH HI=true:=by kernel_rfl
theorem RH:a8 Tryz.prog 103 2 HJ HK=true:=by kernel_rfl
theorem RI:a8 Tryz.prog 104 1 HL HM=true:=by kernel_rfl
theorem RJ:a8 Tryz.prog 105 3 HN HO=true:=by kernel_rfl
theorem alg:a8 Tryz.prog 111 2 P8 Aa=true:=by kernel_rfl
theorem alh:a8 Tryz.prog 112 1 P9 Ab=true:=by kernel_rfl
theorem ali:a8 Tryz.prog 113 1 Qa Qb=true:=by kernel_rfl
theorem alj:a8 Tryz.prog 114 2 Qc Ac=true:=by kernel_rfl
theorem alk:a8 Tryz.prog 115 2 Qd Ad=true:=by kernel_rfl
theorem RK:a8 Tryz.prog 120 3 HQ lq=true:=by kernel_rfl
theorem alm:a8 Tryz.prog 121 1 Qe xi=true:=by kernel_rfl
theorem JG:a8 Tryz.prog 122 2 Ae uH=true:=by kernel_rfl
theorem JH:a8 Tryz.prog 123 2 Af uI=true:=by kernel_rfl
theorem JI:a8 Tryz.prog 124 2 Ag Ah=true:=by kernel_rfl
theorem aln:a8 Tryz.prog 125 2 Qg uJ=true:=by kernel_rfl
theorem JJ:a8 Tryz.prog 126 1 Ai Aj=true:=by kernel_rfl
theorem RL:a8 Tryz.prog 127 1 HS HT=true:=by kernel_rfl
theorem RM:a8 Tryz.prog 128 2 HU HV=true:=by kernel_rfl
theorem RN:a8 Tryz.prog 130 3 HW HX=true:=by kernel_rfl
theorem RO:a8 Tryz.prog 131 1 HY HZ=true:=by kernel_rfl
theorem RP:a8 Tryz.prog 132 1 H0 H2=true:=by kernel_rfl
theorem RQ:a8 Tryz.prog 133 2 H3 H4=true:=by kernel_rfl
theorem RR:a8 Tryz.prog 134 1 H5 H6=true:=by kernel_rfl
theorem RS:a8 Tryz.prog 135 3 H7 H8=true:=by kernel_rfl
theorem RT:a8 Tryz.prog 136 1 H9 Ia=true:=by kernel_rfl
theorem RU:a8 Tryz.prog 137 1 Ib Ic=true:=by kernel_rfl
theorem RV:a8 Tryz.prog 138 1 Ie Ig=true:=by kernel_rfl
theorem RW:a8 Tryz.prog 139 2 Ih Ii=true:=by kernel_rfl
theorem RX:a8 Tryz.prog 140 2 Ij Ik=true:=by kernel_rfl
theorem RY:a8 Tryz.prog 141 1 Il Im=true:=by kernel_rfl
theorem RZ:a8 Tryz.prog 142 2 Io Ip=true:=by kernel_rfl
theorem R0:a8 Tryz.prog 143 1 Iq Ir=true:=by kernel_rfl
theorem R1:a8 Tryz.prog 144 2 Is It=true:=by kernel_rfl
theorem R2:a8 Tryz.prog 145 2 Iu Iv=true:=by kernel_rfl
theorem R3:a8 Tryz.prog 146 2 Iw Ix=true:=by kernel_rfl
theorem alo:a8 Tryz.prog 150 1 Qi pM=true:=by kernel_rfl
theorem alp:a8 Tryz.prog 156 1 Qj Qk=true:=by kernel_rfl
theorem alq:a8 Tryz.prog 157 1 Qm uK=true:=by kernel_rfl
theorem alr:a8 Tryz.prog 158 1 Qo qQ=true:=by kernel_rfl
theorem At:a8 Tryz.prog 159 4 xj pN=true:=by kernel_rfl
theorem als:a8 Tryz.prog 160 5 Qp gL=true:=by kernel_rfl
theorem alu:a8 Tryz.prog 161 1 Qr qR=true:=by kernel_rfl
theorem JK:a8 Tryz.prog 162 2 Ak Al=true:=by kernel_rfl
theorem JL:a8 Tryz.prog 163 2 Am xk=true:=by kernel_rfl
theorem R4:a8 Tryz.prog 164 3 IA IB=true:=by kernel_rfl
theorem R5:a8 Tryz.prog 167 3 IC ID=true:=by kernel_rfl
theorem R6:a8 Tryz.prog 168 1 IE IF=true:=by kernel_rfl
theorem R7:a8 Tryz.prog 169 2 IG IH=true:=by kernel_rfl
theorem R8:a8 Tryz.prog 170 2 II IJ=true:=by kernel_rfl
theorem R9:a8 Tryz.prog 171 2 IK IL=true:=by kernel_rfl
theorem Sa:a8 Tryz.prog 172 1 IM IN=true:=by kernel_rfl
theorem Sb:a8 Tryz.prog 173 1 IP IQ=true:=by kernel_rfl
theorem Sc:a8 Tryz.prog 174 1 IS IT=true:=by kernel_rfl
theorem Sd:a8 Tryz.prog 175 2 IU IV=true:=by kernel_rfl
theorem Se:a8 Tryz.prog 177 1 IW IX=true:=by kernel_rfl
theorem Sf:a8 Tryz.prog 178 2 IY IZ=true:=by kernel_rfl
theorem Sg:a8 Tryz.prog 179 1 I0 I1=true:=by kernel_rfl
theorem alv:a8 Tryz.prog 186 1 Qt An=true:=by kernel_rfl
theorem alw:a8 Tryz.prog 187 1 Qu Ao=true:=by kernel_rfl
theorem alx:a8 Tryz.prog 188 1 Qv Ap=true:=by kernel_rfl
theorem aly:a8 Tryz.prog 189 5 Qx Qy=true:=by kernel_rfl
theorem Sh:a8 Tryz.prog 193 1 I2 I3=true:=by kernel_rfl
theorem Si:a8 Tryz.prog 194 1 I4 I5=true:=by kernel_rfl
theorem Sj:a8 Tryz.prog 197 5 I6 I7=true:=by kernel_rfl
theorem Sk:a8 Tryz.prog 198 1 I8 I9=true:=by kernel_rfl
theorem Sl:a8 Tryz.prog 199 1 Ja Jb=true:=by kernel_rfl
theorem alz:a8 Tryz.prog 206 5 Qz QA=true:=by kernel_rfl
theorem Sm:a8 Tryz.prog 209 4 Jc Jd=true:=by kernel_rfl
theorem Sn:a8 Tryz.prog 210 4 Je Jf=true:=by kernel_rfl
theorem So:a8 Tryz.prog 219 1 Jg Jh=true:=by kernel_rfl
theorem Sp:a8 Tryz.prog 221 3 Ji Jj=true:=by kernel_rfl
theorem Sq:a8 Tryz.prog 227 2 Jk Jl=true:=by kernel_rfl
theorem alA:a8 Tryz.prog 7 2 QB QC=true:=by kernel_rfl
theorem alB:a8 Tryz.prog 26 1 QD QE=true:=by kernel_rfl
theorem Sr:a8 Tryz.prog 9 2 Jm Jn=true:=by kernel_rfl
theorem Ss:a8 Tryz.prog 36 1 Jo Jp=true:=by kernel_rfl
theorem St:a8 Tryz.prog 73 1 Jq Jr=true:=by kernel_rfl
theorem Su:a8 Tryz.prog 75 2 Js Jt=true:=by kernel_rfl
theorem Sv:a8 Tryz.prog 120 3 Ju Jv=true:=by kernel_rfl
theorem Sw:a8 Tryz.prog 121 1 Jw Jy=true:=by kernel_rfl
theorem Sx:a8 Tryz.prog 125 2 Jz JA=true:=by kernel_rfl
theorem Sy:a8 Tryz.prog 161 1 JB JC=true:=by kernel_rfl
theorem Sz:uL.sg Tryz.prog:=⟨⟨⟨⟨⟨⟨QG,⟨ala,Sr⟩⟩,⟨⟨JD,QI⟩,⟨QJ,QK⟩⟩⟩,⟨⟨⟨QL,QM⟩,⟨QN,QO⟩⟩,⟨⟨QP,QQ⟩,⟨QR,QS⟩⟩⟩⟩,⟨⟨⟨QT,⟨QU,JE⟩⟩,⟨⟨Ss,QW⟩,⟨QX,QY⟩⟩⟩,⟨⟨⟨QZ,Q0⟩,⟨Q1,Q2⟩⟩,⟨⟨Q3,Q4⟩,⟨Q5,Q6⟩⟩⟩⟩⟩,⟨⟨⟨⟨Q7,⟨Q8,Q9⟩⟩,⟨⟨Ra,Rb⟩,⟨Rc,Rd⟩⟩⟩,⟨⟨⟨Re,Rf⟩,⟨St,As⟩⟩,⟨⟨Su,JF⟩,⟨Rj,Rk⟩⟩⟩⟩,⟨⟨⟨⟨Rl,Rm⟩,⟨Rn,Ro⟩⟩,⟨⟨Rp,Rq⟩,⟨Rr,Rs⟩⟩⟩,⟨⟨⟨Rt,Ru⟩,⟨Rv,Rw⟩⟩,⟨⟨Rx,Ry⟩,⟨Rz,RA⟩⟩⟩⟩⟩⟩,⟨⟨⟨⟨⟨RB,⟨RC,RD⟩⟩,⟨⟨RE,RF⟩,⟨RG,RH⟩⟩⟩,⟨⟨⟨RI,RJ⟩,⟨Sv,Sw⟩⟩,⟨⟨JG,JH⟩,⟨JI,Sx⟩⟩⟩⟩,⟨⟨⟨⟨JJ,RL⟩,⟨RM,RN⟩⟩,⟨⟨RO,RP⟩,⟨RQ,RR⟩⟩⟩,⟨⟨⟨RS,RT⟩,⟨RU,RV⟩⟩,⟨⟨RW,RX⟩,⟨RY,RZ⟩⟩⟩⟩⟩,⟨⟨⟨⟨R0,⟨R1,R2⟩⟩,⟨⟨R3,At⟩,⟨Sy,JK⟩⟩⟩,⟨⟨⟨JL,R4⟩,⟨R5,R6⟩⟩,⟨⟨R7,R8⟩,⟨R9,Sa⟩⟩⟩⟩,⟨⟨⟨⟨Sb,Sc⟩,⟨Sd,Se⟩⟩,⟨⟨Sf,Sg⟩,⟨Sh,Si⟩⟩⟩,⟨⟨⟨Sj,Sk⟩,⟨Sl,Sm⟩⟩,⟨⟨Sn,So⟩,⟨Sp,Sq⟩⟩⟩⟩⟩⟩⟩
theorem SA:uM.sg Tryz.prog:=⟨⟨⟨⟨⟨⟨QG,⟨alA,Sr⟩⟩,⟨⟨JD,QI⟩,⟨QJ,QK⟩⟩⟩,⟨⟨⟨QL,QM⟩,⟨QN,QO⟩⟩,⟨⟨QP,QQ⟩,⟨QR,QS⟩⟩⟩⟩,⟨⟨⟨alB,⟨QU,JE⟩⟩,⟨⟨Ss,QW⟩,⟨QX,QY⟩⟩⟩,⟨⟨⟨QZ,Q0⟩,⟨Q1,Q2⟩⟩,⟨⟨Q3,Q4⟩,⟨Q5,Q6⟩⟩⟩⟩⟩,⟨⟨⟨⟨Q7,⟨Q8,Q9⟩⟩,⟨⟨Ra,Rb⟩,⟨Rc,Rd⟩⟩⟩,⟨⟨⟨Re,Rf⟩,⟨St,As⟩⟩,⟨⟨Su,JF⟩,⟨Rj,Rk⟩⟩⟩⟩,⟨⟨⟨⟨Rl,Rm⟩,⟨Rn,Ro⟩⟩,⟨⟨Rp,Rq⟩,⟨Rr,Rs⟩⟩⟩,⟨⟨⟨Rt,Ru⟩,⟨Rv,Rw⟩⟩,⟨⟨Rx,Ry⟩,⟨Rz,RA⟩⟩⟩⟩⟩⟩,⟨⟨⟨⟨⟨RB,⟨RC,RD⟩⟩,⟨⟨RE,RF⟩,⟨RG,RH⟩⟩⟩,⟨⟨⟨RI,RJ⟩,⟨Sv,Sw⟩⟩,⟨⟨JG,JH⟩,⟨JI,Sx⟩⟩⟩⟩,⟨⟨⟨⟨JJ,RL⟩,⟨RM,RN⟩⟩,⟨⟨RO,RP⟩,⟨RQ,RR⟩⟩⟩,⟨⟨⟨RS,RT⟩,⟨RU,RV⟩⟩,⟨⟨RW,RX⟩,⟨RY,RZ⟩⟩⟩⟩⟩,⟨⟨⟨⟨R0,⟨R1,R2⟩⟩,⟨⟨R3,At⟩,⟨Sy,JK⟩⟩⟩,⟨⟨⟨JL,R4⟩,⟨R5,R6⟩⟩,⟨⟨R7,R8⟩,⟨R9,Sa⟩⟩⟩⟩,⟨⟨⟨⟨Sb,Sc⟩,⟨Sd,Se⟩⟩,⟨⟨Sf,Sg⟩,⟨Sh,Si⟩⟩⟩,⟨⟨⟨Sj,Sk⟩,⟨Sl,Sm⟩⟩,⟨⟨Sn,So⟩,⟨Sp,Sq⟩⟩⟩⟩⟩⟩⟩
theorem qS (l:List (Nat×List AV×AV)) (m:List c0) {e:Nat×List AV×AV} (aN:qK Tryz.prog bq l) (hm:qM Tryz.prog bq m)
  (h:((uL.get e.1).isSome&&e.2.1.all AV.arg&&zX (nD bq (kb l) uL.get (qL (kb l) (ox m xl)) 100000 1000 e.1 e.2.1 []) e.2.2)=true):a3 e :=
 O6 (l:=l) (m:=m) (t:=uL) aN hm Sz Aq h
theorem aq1 (l:List (Nat×List AV×AV)) (m:List c0) {e:c0} (aN:qK Tryz.prog bq l) (hm:qM Tryz.prog bq m)
  (h:(match nD bq (kb l) uL.get (qL (kb l) (ox m xl)) 100000 1000 e.f e.xs e.H with | some outs=>qN outs e.outs | none=>false)=true):dM e :=
 O8 (l:=l) (m:=m) (t:=uL) (e:=e) aN hm Sz Aq h
theorem bb (l:List (Nat×List AV×AV)) (m:List c0) {e:Nat×List AV×AV} (aN:qK Tryz.prog bq l) (hm:qM Tryz.prog bq m)
  (h:((uM.get e.1).isSome&&e.2.1.all AV.arg&&zX (nD bq (kb l) uM.get (qL (kb l) (ox m xl)) 100000 1000 e.1 e.2.1 []) e.2.2)=true):a3 e :=
 O6 (l:=l) (m:=m) (t:=uM) aN hm SA Aq h
theorem dU (l:List (Nat×List AV×AV)) (m:List c0) {e:c0} (aN:qK Tryz.prog bq l) (hm:qM Tryz.prog bq m)
  (h:(match nD bq (kb l) uM.get (qL (kb l) (ox m xl)) 100000 1000 e.f e.xs e.H with | some outs=>qN outs e.outs | none=>false)=true):dM e :=
 O8 (l:=l) (m:=m) (t:=uM) (e:=e) aN hm SA Aq h
end AM
