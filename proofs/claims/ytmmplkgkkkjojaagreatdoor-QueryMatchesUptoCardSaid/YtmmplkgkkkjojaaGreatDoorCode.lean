/- The program's functions as code of the abstract machine. Conditions: none; definitions alone. -/
import Derived.Test.YtmmplkgkkkjojaaGreatDoorAm4
import Derived.Test.YtmmplkgkkkjojaaGreatDoorAm5
set_option maxRecDepth 100000
namespace AM
open Go
def aeU:=U "gnw(V(T+)(1*(i+)os(p(mgo+(R(T(V/*)(.(*F:,(f.((6.(6/)fW()fX((i0((W7(((e((Xe)H((:*(i!)fQ0hnmop(mmq)f8(Vf738)fV(7l8l7jmmlKlLlMlPlQlSlUlWlXlklnZlncl=l9l(t"
def O6:=U "go9b;3fQ((z(nm"
def kB:=aZ "g,9*0hg5(5b2/(P7(((e((8e)b20(de*7(:+(((e(.9*e)b21(de*7(:+(((e((Ce)(Ce*=2)(e+7(:,(i:)b;3fC((z(nmop)mgJ(JC4(f*((6*(6+)fG()fF((i,((FH((((e((Je)ygS:*(((e((Re)(Le*F5)(e+H((:,(i3)b;3fQ((z(nmop)mg$(R.P*F6)(f+((6+(6,)fT!)fU((i!((UH((z)(T+)(G((((d(b;3;)(fQ((i!(nmop.m(T.P*=7)(+)((T+)(#(*(((e((Te)(Te*49(e+=8*(e,7(:!(i5)fQ0hnmop(mfV,(hxrq(mxmmmmmmmm" aeU O6 [.bin 43 2 .eql (.t 42) (.c .fl)]
def qN:List bo:=[.t 6]
def aeV:=U "gN1()hos*p(()fJ((z((K(P/+)()(**()(Q/+)()().(*b21(<7(i2)fO0hnmop(mmq+35)f6((z(mmmlLlOlQlUlYl=l5l)t"
def O8:=U "g$3X)fX((z("
def aeW:=aZ "g51()hos(p(()f2((z((7(3/+)()((.(*b21(<7(((e((?e)(;e*/+)(e+)(*e,*()e!+)(e.E(0:/(i7)fC0hnmop(m(G(C/+)()(**()+)(,(i.*xrq*mmmq)xmmmlLlJl#lHlDl@l/l)l(lnOln[t" aeV O8
def O9:=U "g](KyfO(n_l(ln_jnm" [.eP (some 55) 10 [.t 54,.c (.aS 2)]]
def Yj:=aZ "g+0hg.(.+)((/V)(i+)f.0hnmop(m(2+)(,(z*xrq(mxmmm" aeW O9
def Yk:List bo:=[.t 4]
def aeX:=U "g41()hos(p(()f1((z((6(2/*)(.(*(9=1)(7(i.)f90hnmop(mmq)31)f2((z(mmml:l9l5l1l)t"
def vo:=U "g+Dhnm"
def Jh:=aZ "g+0hg!(!+)((.V)(i+)f!0hnmop(m(1+)(,(z*xrq(mxmmm" aeX vo
def rE:=U "g)9)g+0h.**(,(!RC*)((/b5)(f.((i!(nmm"
def avU:=U "gC1()hos(p(()f<((z((=(E(>/*)(.(*],(i!(mq)30)f1((z(mmmlHlFlClBlAl@l?l>l=l<l;l:l9l8l0lnUln$ln]ln^lnllnnlnolnplo,lo4lo5lo6lo8loYlotloulovt"
def aeY:=U "gno1()hos.p(()f[((z(gnr(K(X/+)(5+((8+(*(Y([/))(2+()=H,(f2((62(63)f$B*a)*$)f]((i4((]h!W.$*?*(A*(A*fW!(i+(op,mmmq/3<)f=((z(mmmlLlOlQlTlZl[l$l]l^l_lelflglnUln^l@l<l!lo4lo5lo6lo8loYlotloulovt"
def Ph:=U "go13n])fn]((z("
def aeZ:=aZ "g]1()hos,p(()fX((z(g`(P(K(X/+)()(**()(VWG.)(f0((60(61)fY!)fZ((i2((Z7(z)fO0hnmop(m(Y+)(,(z*xrq.mmmmq!xmmmlLlOlQlTlXlYlZl[l$l]l^l_lelflglBl9l+l)l(lnplo,lo4lo5lo6lo8loYlotloulovt" aeY Ph
def ae1:=U "go51()hos0p(()f^((z(go8(V(^/*)()()*()+)(G()((d((Vd)(^d*/*)(d+)((d,*()d!yd!goF((e((Ve)(^e*/*)(e+)((e,*()e!yd4goM:.(;6(f?((i>(!W(V(^/*)()()*()ygoV?*(A/(A*fW!(i0(goY(V(^/*)()()*()+)(G(*((d((Vd)(^d*/*)(d+)((d,*()d!ygog;.(f7((i6(!W(V(^/*)()()*()ygoo?*(A/(A*fW!(i0(op@mpo8mq2mq13o5)fo5((z(mmmlLlOlQlTlXlYlZl[l$l]l^l_lelflglnUln$ln]ln^lnllnnlnolnplo,lo6lo8lAlotloulovt" [.bin 113 0 .eql (.t 112) (.c (.str [105,110,105,116])),.bin 120 0 .eql (.t 119) (.c (.str [110,101,120,116])),.build 129 [.str [],.aS 2] [(0,1,.c (.str [116,114,117,101])),(1,1,.t 128)],.bin 146 0 .eql (.t 145) (.c (.str [108,101,103,97,108])),.build 154 [.str [],.aS 2] [(0,1,.c (.str [100,111,101,115])),(1,1,.t 153)]]
def ae3:=U "gou1()hos3p(()f_((z((S(W(_/*)(.(*],(i!(mq430)f1((z(mmmlLlOlQlTlVlXlYlZl[l$l]l^l_lelflglnUln$ln]ln^lnllnnlnolnplo,lo4lo5lo6lo8loYl0t"
def Pj:=cU "gor(W+)(,(z*xrq3m" ae3
def Py:=aZ "go2(V+)(,(z*xrq0mxm" ae1 Pj
def ae4:=aZ "gL(B*F)+)(1*(((d(*J)d)+)(d*b@(z,;+(i0)os*p(m*R)+)(fU((l)l(j*R)(Ub7*)(fV!(i*(fWLA*h(K+)(,(z*xrq,mxmmmmq+mlLlOlQlTlVlWlXlYlZl[l$l]lJl#lClBlAl0l)l(ln^lnllnnlnolnplo,lo4lo5lo6lo8loYlotloulovt" aeZ Py
def PC:=U "gp+*R)+)(b@(z,fO((i*(nm"
def PE:=aZ "g1Uhxrq*mxm" ae4 PC
def Ym:=aZ "g+0hyg=S(f9((l)l(jPy`)9(z(f8bG*hbJD98f8((z((?+)(,(z*xrq(mxmmmmmm" avU PE [.build 21 [.int .i64 0] [(0,1,.c (.int .i64 1000000))],.kc 6 [.ha]]
def Yp:=U "f(0hyg4C4(f*((6*(6+)f6()f5((i,((5H((((e((9e)yg<:*(((e((=e)ye)g@F5)(e+H((:,(i3)fC0hnmop(mgD(CygFF6)(f+((6+(6,)fF!)fE((i!(gJ(#ygLF:)(f+((6+(6,)fJ()f#((i!((OH((((e((Ne)ye)gT=8)(e+7(:,(((e((Pe)7(:*(((e((Qe)H((:*(((e((Le)C=(e*H(+:+(((e((Le)C>(e*ye*gh=?)(e,7(:!(iC)fK0hnmop(m(LygmF5)(fR((i*((LC>(fS!(l)l(jgnq(LygnsF6)(f+((6+(6,)fT!)fU((i!((RG((((d((Sd)yd)go(=?)(;+(((d((Td)+)(d*G((;+(((d((Ud)G((;*(((d((Ld)C=(d*G(!;+(fK((i<(nmmmmmmmmmm" [.eP (some 12) 33 [.c (.str [112,40,88,41,32,105,102,32,113,40,88,41,32,97,110,100,32,116,114,117,101,40,88,41,46,32,113,40,97,41,46,32,113,40,98,41,46,32,114,32,105,102,32,112,40,97,41,46])],.bin 20 2 .eql (.t 19) (.c .fl),.eP (some 24) 34 [.c (.str [116,114,117,101,40,97,41])],.eP (some 30) 35 [.c (.str [112,40,88,41])],.eP (some 36) 35 [.c (.str [114])],.eP (some 44) 34 [.c (.str [112,40,97,41])],.lit 64 1 [.c (.str [112]),.c (.str [113]),.c (.str [114])],.eP (some 69) 34 [.c (.str [116,114,117,101,40,98,41])],.eP (some 75) 35 [.c (.str [114])],.lit 83 1 [.c (.str [113])]]
def Yq:List bo:=[.t 0]
def ae5:=U "g71()hos(p(/++).(+f5T*+`+5(l)l(j.5+4L(f6((l)l(j(6H((z)(8yf<((z(nmop)mmmq)30)f1((z(mmml>l=l;l:l8l7l4l0l*ljt" [.hV 2 (.c .fl)]
def PG:=U "gA(A4M(f*((6*(6+)f>!)f=((l>k,((=H((z)(?yfE((z(nmop)mm(H4N((J4O((K4P(PygPS(fH((i0((HfM((fN,(z(nmmm" [.hV 2 (.c .fl),.build 40 [.bool false,.aS 3,.aS 3,.aS 1,.aS 2,.ha,.int .i64 0] [(0,1,.c (.bool true)),(1,1,.t 34),(2,1,.t 36),(3,1,.t 38),(5,1,.t 39)]]
def PH:=aZ "yg*,(hg1(1+)(E(oUl*l)jyf1,*hnmop(m(4+)(,(hxrq(mxmmm" ae5 PG [.hV 2 (.c .fl),.hV 2 (.c .fl)]
def PI:List bo:=[.t 2,.t 3]
def afa:=U "g=1()hos(p(/)+)*()f8((l)l(j(;(9=T)((C>,(5,(,2,()(?=T)(=S.(7(i2)(K(DFU)(i*(op+mmq)39)f:((z(mmmlLlOl#lGlDl=l9l,t"
def PL:=U "gO(K(P@))(,`)(*i+(fO,(hnmm"
def Yv:=aZ "g+,(hg0(0CQ(7(l*l)jf/,5hnmop(mg4(3yf)(Yg66*(6+)f3!)f2((i,((2H((z)f6,5hnmop(myg;+)(,(hxrq(mxmmmmm" afa PL [.eP (some 14) 42 [.c (.aS 3),.t 13],.lit 19 1 [.c (.str [116,114,117,101]),.c (.str [100,111,101,115])]]
def Yx:=U "g*9)<*,(hg0(0CQ(7(((e(.1*e)4V(e*7(:+(((e()6(e)*()e*4W(e+7(:,(i5)f:<*f9,5hnmop(m);(*()ygA((e()?(e)*()e*ygE:+(i/)(F>,(5,(,2,()8+G*=X)(fH!(fG,(i!(nmop.mgM(K)N(*()FY*(f,((6,(6!)fQ!)fR!(i.((K(Qb1Z)(E((((e((Ke)(Qe*F[)(e+E(t6:,(i1)(K(Q(RW$*)(fS((i+((SH((z)(SfO<*fP((z(nmop)mmop/m(K>,(5,(!2,()5+N(2+()ygk8+N*=X)(fO!(fP,(i0(nmmmmmm" [.bin 25 0 .eql (.t 24) (.c (.str [116,114,117,101])),.bin 29 0 .eql (.t 28) (.c (.str [100,111,101,115])),.look [1] 67 (.t 64) (.t 66) (.aS 2) false]
def Yy:List bo:=[.t 4,.t 5]
def afb:=U "g0(*(1+)(1*(i+)os(p(mg78+4*(8(3/*)(8+(*yf!(`g=6.(6/)f8!)f7((l8k0((7h!;(A(</*)(.(*?*(A!(A*fB!(i.(op/mmq)f:(Af93:)fA(9l:l9jmmlFlCl?l;l/t" [.eP (some 21) 53 [.t 16,.t 20,.c (.aS 3)]]
def P8:=U "gG!BfD!(z(nm"
def P9:=aZ "g*9)<*hLA*h,(hxrq(mxmmm" afb P8
def afj:=U "g51()hos(p(()f2((z((7(3/*)(8+(*(:(7/*)(8+(*=^,(7(i1)f=0hnmop(mmq)34)f5((z(mmml>l=l8l4l)t"
def SQ:=U "g+Dhnm"
def JI:=aZ "g+0hg!(!+)((.+)(#(*(i,)f.0hnmop(m(2+)(,(z*xrq(mxmmm" afj SQ
def afn:=U "g3(.(1+)(1*(((d((5d)(4d*/*)(d+8+(*d,(<d!(9d./*)(d/8+(*d0=_,(d1N((;2(i7)os*p(m(>3()f@((l)l(jq+mlCl?l;l*lnUt"
def Tv:=U "gE(@(C+)(1*(((d((Gd)(Fd*/*)(d+8+(*d,(Kd!(Od./*)(d/8+(*d0=_,(d1G((;2(i7)s)op(mfQLA*h!Q(N(Pb7*)(A+(A*fQ!(i,(!Q(K(O/*)(.(*?*(A!(A*fQ!(i.(!Q(N(PbH*)(A+(A*fQ!(i,((QfN!(z(mmmmm"
def TS:=U "gg3T)fT((z("
def afp:=cn "g11()hos(p(()f/((z(f.,(hxrq*xmmmq)xmmml1l/l.l!l)lflnUt" afn Tv TS
def TW:=U "gh!NfM!(z(nm"
def TX:=aZ "g)<*h<*hg.(.+)(,(z*xrq(mxmmm" afp TW
def TY:List bo:=[.t 2]
def O7:=U "g*9)0,(hg/(/CQ(7(((e(.0*e)4`(e*7(:+(i/)f30f2,5hnmop(mg8(8.6*F6)(f+((6+(6,)f7!)f6((i!((7+)(E(((9f=()f<((i+(nmmmm"
def YK:=U "g),(h(*CQ(7(l*l)jf+,(hnmop(m(!@()(.*()f/((i+(nmmm"
def av9:=U "g4b,(6((z)os(v*p(b/*6((f4((l)l(j!5(5?)(Z1)*(f9!(i+(mq)mml<l:l8l5l.t"
def YM:=U "g<(9Ca(l)l(j!;f=!(z(u<1)nmm"
def YN:=aZ "g)<)hg,(,CQ(7(l*l)jf!<)hnmop(mf,<)h(/@()(!*()b*(i,)xrq(mxmmmm" av9 YM
def awa:=U "g51()hos(p(()f2((z((7(3/))(2+()(:(7/))(2+()#(,(i0)f<0hnmop(mmq)33)f4((z(mmml=l<l7l3l)t"
def TZ:=U "g+Dhnm"
def YR:=aZ "g+0hg!(!+)((.+)(#(*(i,)f.0hnmop(m(2+)(,(z*xrq(mxmmm" awa TZ
def afq:=U "g81()hos(p(()f2((z((3(:V)(l*l)j(6f8((z(nmop)m(7)<)*()(9/*)(.(*(C(CM()RC+*(K1(fB((i2(mmq)39)f:((z(mmmlJlDlBl@l9l5t"
def vq:=U "gJ(CfE((z(nm"
def Y0:=aZ "g*9*g!,(hg0(.N()z)(13()f.((l)l(jnmop*mf!,)h)1)*()+)(,(l+l*jxrq(mxmmmm" afq vq
def Y2:=U "g*9*hg,.)*4E(f*((l)l(j*!)(+yg17(((d(.0*d)4F(d*b@(,;+(i0)*6)(4bP))(l)l(j2,7)8+7*+))yg=ZA*+(/*(*yyi!(mop0mmm" [.look [1] 9 (.t 7) (.t 8) (.bool false) false,.lit 21 2 [.c (.agg [.str [],.aS 2])],.lW true 2 (.t 23) (.t 19),.lW false 1 (.t 2) (.t 22)]
def Y3:List bo:=[]
def awf:=U "g31()hos(p(()f1((z((2)5)*()(4/*)(.(*4E(yg=K/(f;((i0(mq)33)f4((z(mmml?l=l;l3t" [.bin 21 0 .add (.t 20) (.c (.str [44]))]
def Y4:=U "g?(<yf>(dl(ldjnm" [.bin 25 0 .add (.t 24) (.c (.str [41]))]
def Y5:=aZ "9(yhg,)+(*()yf+(Ri)Rg/).)*()+)(,(l+l*jxrq(mxmmm" awf Y4 [.hV 2 (.c (.str [])),.bin 7 0 .add (.t 6) (.c (.str [40]))]
def awh:=U "g01()hos(p(()f.((z((/)2)*()(1/*)(.(*4F(bA.(f7((i/(mq)32)f3((z(mmml;l9l7l2t"
def Y7:=U "g;(83()f;((l)l(jnm"
def Y8:=aZ "9(,(h,(hg,)+)*()+)(,(l+l*jxrq(mxmmm" awh Y7
def awi:=U "gT1()hos,p(()f#((z((M(J/*)(5,((2,())U(2*()#(*(((e((Me)(Xe*/*)(e+5,()e,2,()e!+)(e.)U)e/2*()e0+)(e1#(+(:2(i;)s!op(m(K@()((*()M()@,)((`)(*i.(gnr8)U*(M(X/*)(8,(*(S(W/))(2+()Rd0,(f2((62(63)fY!)fZ((i4((Zh!V(Y?)(A*(nu)fV!(i+(op,m(K@()((*()N((((e((Ve)+)(e*ygo9:+(i1)fQ<)fR0hnmop(mmmmmmq!3nT)fnT((z(mmmlQlRlTlXlYlZl_lnLlnPlnUlnjl7l)t" [.bin 100 0 .gtr (.t 99) (.c (.int .i64 5000))]
def Za:=U "go;3nO)fnO((z("
def aft:=aZ "gO1()hos*p(()fE((z((M+)(,(z*xrq,mmq+xmmmlQlRlTlHlGlFlEl@l0l,l)l(lnUlnjlo,lo:t" awi Za
def T0:=U "go<(VfS!(z("
def T1:=U "go=3^)f^((z("
def af0:=cn "g;1()hos(p(()f4((z((<(5/+)()().(*f8B*`*8(i,((A(:/+)()((*()((e()>(e)*()e*ygK:+(i1)s)op(mfALnu)h(D+)(,(z*xrq*mxmmmmmq)xmmml#lHlFlElDlClBlAl@l;l+l)l(lnPlnSlnTlnUlnjlo,lo:t" aft T0 T1 [.bin 35 0 .eql (.t 34) (.c (.str [100,105,115,116,105,110,99,116]))]
def T2:=U "go>!SfQ!(fRDz(nm"
def Zb:=aZ "g!<)0hy![z[g8(7+)(,(z*xrq(mxmmm" af0 T2 [.nV 16 77 1 [.c (.aS 3)]]
def Zc:List bo:=[.t 6,.t 7]
def af1:=U "g71()hos(p(()f3((z((8(4/+)(5+((2+()5+<(2+()Q(*(i/)(@(</+)()().(*`*B(fADi,(nmop!mmq)37)f8((z(mmmlGlBlAl@l?l>l=l;l7l.lnNlnOlnPln]t"
def T3:=U "gG.E*`*D(fC0z(nm"
def agD:=U "gO1()hos*p(()f#((z(gR)M)*()(S/*)(.(*(L=H)(f/((6/(60)fTB*`*T)fU((i1((U7(z).M*`*O(fP0z(nmop)m)R)b:(A*.T*?*(A*(A*)R)bR()i!(mmmq+3=)f>((z(mmmlKlPlQlSlTlUlWlYlZl[ldl=l0t"
def T4:=U "ge.R*`*O(fPDz(nm"
def T5:=aZ "gH)F(*()b=*()(fDB*`*D(i*()#)*()+)(,(l+l*jxrq*mxmm" agD T4
def sw:=cn "g)9)g+B*0hg2.0*4e(z)(3+)(,(z*xrq(mxmop+mxmm" af1 T3 T5
def tG:List bo:=[.b 4 2,.t 5]
def OW:=U "g0(!Cf(f!((l)l(j(!yz(g4!0f3!(z(nmop)m!1(3(2Fg)(?+(A,(e+f7!(i!(mmq)l;l9l6l/t" [.bin 12 0 .eql (.t 11) (.c (.str []))]
def tI:=cU "g)<+hg!(!yg/S(f!((i*(f,Le+hxrq(mmm" OW [.build 7 [.str [],.int .i64 0] [(0,1,.t 6)]]
def awj:=U "g/(,>,(5,()2,()(0>,(5,((2,()+((1!(i1)os(p(m!5(7(8Cf(Fh*(?*(A!(A*f<!(i.((=Yi(T7(l*l)js(op(mmq)mlClAl2l(t"
def Zd:=U "gC!?fB!(z(nm"
def Zg:=aZ "g)<*hg,(,yg.S(f,((i*(f+LA*hxrq(xmmmm" awj Zd [.build 6 [.str [],.int .i64 0] [(0,1,.t 5)]]
def kC:=U "g)B*hg+(+yg!S(f+((i*((+(,Cf(Fh*(`*0(i+(nmmm" [.build 5 [.str [],.int .i64 0] [(0,1,.t 4)]]
def uW:List bo:=[.b 2 2]
def awl:=U "g81()hos(p(()/*,*.(*f7B*f8(*`*7(i*(.7*(9G((=k*(f:((i+((:H((z)(<fA((z(nmop)mmmq)33)f4((z(mmmlDlBl@l?l>l=l9l3l*lklnKlnOlndt"
def Zi:=U "gD(A4l(+)(E(!i+)fF,3hnmop(m.G+4m(7(l*l)jf#,/hnmop(m)J()((*()yi*(gO)L()()*()b.*((.(*fRB*`*R(i,()L**()+)(E((((e()R)e)*()e*+)(e+E((:,(((e()R(e)*()e*4W(e+7(:,(i7)fM,0hnmop(mmop=mfM,(hnmmmm" [.bin 39 0 .eql (.t 38) (.c (.str [114,111,108,101]))]
def Zl:=aZ "9(,(hg/).**()+)(E(0i+)f1,*hnmop(m.2+4j(f2!(l)l(j(2+)(,(hxrq(mxmmmm" awl Zi
def awn:=U "g>1()hos*p(/++).(+f8bN`+8(l)l(j(;)9)2*()bB)*((8)<+4no(K*(f>((i.((B)@(*()bB)*(((B1)(i!)(H)F(*()(GbO)+)(i+(fRDh(H(O+)(bE*(i+)fM<*fN,2hnmop(mmmop0mmmq+3@)fA((z(mmmlKlMlNlTlUlVlJlDl@l1l)lnXlnYlnZln[t"
def ahi:=cU "g:(3hos(p(mf40h(6+)(,(hxrq*mmq)ml>l<l;l5l4l3l1l+l*l)l(lblnNlnVlnXlnYlnZln[t" awn
def ake:=U "gZ1()hos,p(/)+)*()fX((l)l(j!V(X(Q(XbB))((ygc?*(A.(oT*fV!(i/(mq!33)f4((z(mmmlKlMlNlOlPlRlTlUlXl^l_l`lalbl@l8l3t" [.build 59 [.str [],.int .i64 0] [(0,1,.t 55),(1,1,.t 58)]]
def T6:=U "gf!VfM!(fN,(z(nm"
def T7:=aZ "g2LoT*hgW(O+)(,(hxrq,mxmm" ake T6
def Zo:=aZ "g)<*,(hg5(54nn(f3!(l)l(j(74O(f4!(l)l(jPf4((z(f3Dhxrq(mxmmmmm" ahi T7
def akf:=U "gA1()hos*p(/++).(+f<b)*`+<(l)l(j5,>*b+,(g+)>(2*())@)8*(*?*(4np(b.*((8+(*ygO?+(A2(g+5,Q*bQ,()i5(mq+39)f:((z(mmmlKlMlPlSlGl9t" [.build 39 [.bool false,.str [],.aS 2] [(0,1,.t 32),(1,2,.t 38)]]
def T8:=U "gS!N.Q+?+(A*(e+fN!(i+("
def Ua:=U "gW3V)fV((z("
def akh:=cn "g31()hos(p(/++).(+f1T*+`+1(l)l(j)1(.(*?*(4np(b.*((.(*yy`+6`i!`g=)8**()+)(,(z+xrq*mxmmmq)xmmmlAl?l<l;l9l5l*l)l(let" akf T8 Ua [.build 21 [.str [],.aS 2,.aS 3] [(0,2,.t 20)],.kc 6 [.str [],.aS 2,.aS 3]]
def Uk:=U "gX!NfM!(z(nm"
def Zq:=aZ "g)<+hLe+hg0(0+)(,(hxrq(mxmmm" akh Uk
def aki:=U "g>1()hos*p(/++).(+f:b)*`+:(l)l(j):))((*()yi*(gE(B)A()((*())B))((*())E(*()yyi0nOop1mmq+gO39)f:((z(mmmlKlMl#lDl>l9l3t" [.bin 29 0 .neq (.t 28) (.c (.str [100,105,115,116,105,110,99,116])),.build 39 [.str [],.str [],.bool false] [(0,1,.t 33),(1,1,.t 36),(2,1,.t 38)],.qc [1,1,2] (.t 30) (.t 39) (.c (.bool true))]
def Ul:=U "gP3E)fF((z("
def akj:=aZ "g31()hos(p(/++).(+f1T*+`+1(l)l(j)1()((*()yi*(s)op]mg:)5**()+)(,(z+xrq*mmmq)xmmml>l<l9l7l2l,l*l)l(lblht" aki Ul [.bin 18 0 .eql (.t 17) (.c (.str [100,105,115,116,105,110,99,116]))]
def Um:=U "gQ(NCnr(b3nq(nsfM!(i*(nm"
def Zr:=aZ "g)<+hg/Pf!((z((0+)(,(hxrq(mxmmm" akj Um
def akl:=U "g11()hos(p(/++).(+f/T*+`+/(l)l(j(1)0()((*()bP)+(i+(mq)3/)f0((z(mmml9l7l4l/t"
def VX:=U "g9(6yz((7Cnt(f:!(l)l(jnmm" [.qd [1] none (.t 18) (.c (.str [100,105,115,116,105,110,99,116]))]
def Zt:=aZ "g)<)hg!Pf+((z((.+)(,(hxrq(mxmmm" akl VX
def Zv:=U "g)0h(*yg,((d((!d)@(d*)((d+*();,(f0((i/(nmm" [.bin 4 2 .neq (.t 3) (.c .fl)]
def ZA:=U "g+0h(,(,=o*)(G((f,((i+(nmm"
def awq:=U "g21()hos(p(/*+).(*f.B*`*.(l)l(j).(*()(6Q()(i+)!4.3*?*(A*(A*f8!(i+(op,mmq)33)f4((z(mmml>l:l7l3l!t"
def ZC:=U "g>!9f;!(z(nm"
def Pd:=aZ "g+<*hLA*hg/(/+)(,(hxrq(mxmmm" awq ZC
def akY:=U "g1b,(6((z)os(v*p(b/*6((f1((l)l(j(5@()(**()(5=o,)((:=o+)(i/)(=@()(!*()(=yi,(op!mmq)mml>l7l!t" [.qd [1] none (.t 25) (.t 26)]
def ZE:=cU "g,(,@()(!*()b*(i,)xrq(m" akY
def ZH:=U "9(0h.)*yf)(Ol(lOjnmm" [.eP (some 4) 88 [.t 3,.c (.int .i64 4),.c (.bool true)]]
def Pe:=U "g)0h(*yyyyg/=o.,(((d((1d)yg3;*(((d((5d)yg7;*(((d((9d)yg;;*(f:((i9(nmm" [.build 4 [.int .u8 0,.int .u8 0] [(0,1,.c (.int .u8 97)),(1,1,.c (.int .u8 122))],.build 5 [.int .u8 0,.int .u8 0] [(0,1,.c (.int .u8 48)),(1,1,.c (.int .u8 57))],.build 6 [.int .u8 0,.int .u8 0] [(0,1,.c (.int .u8 45)),(1,1,.c (.int .u8 45))],.build 7 [.int .u8 0,.int .u8 0,.int .u8 0,.int .u8 0,.int .u8 0,.int .u8 0] [(0,2,.t 4),(2,2,.t 5),(4,2,.t 6)],.bin 11 0 .neq (.t 10) (.c (.str [105,102])),.bin 15 0 .neq (.t 14) (.c (.str [97,110,100])),.bin 19 0 .neq (.t 18) (.c (.str [110,111,116]))]
def awt:=U "g41()hos(p(/*+).(*f0B*`*0(l)l(jg8.5*.2*yf*(^g;6+(6,)f5!)f4((l5k!((4h!9.8*?*(A*(A*f=!(i+(op,mmmq)36)f7((z(mmmlClBl?l<l:l6l!t" [.eP (some 19) 90 [.t 17,.t 18,.c (.aS 3)]]
def ZI:=U "gC(>4np(fA!(l)l(jnm"
def ZJ:=aZ "g*9)<*hLA*hg1(1+)(,(hxrq(mxmmm" awt ZI
def alh:=U "gC1()hos(p(/)+)*()f=((l)l(j(@(>=o+)(l*l)j!B(A?)(A*(1)fF!(i+(op,mmq)32)f3((z(mmmlLlJl#lElDlBl2l!lnRlnSlnTlnUln$t"
def alv:=U "gT1()hos*p(/++).(+fWT*+`+W(l)l(j(R)W()((*()=o++(i,)!U.W+?+(A*(e+fU!(i+(op,mmq+34)f5((z(mmmlKlLlOlPlQlTlWlHlGlFlEl@l4l!t"
def VY:=U "ga!R!UfO!)fP!(l)l(jnm"
def VZ:=aZ "g1Le+hgN(K@()()*()+)(,(i!+xrq*mxmm" alv VY
def ZL:=aZ "g+<)<+hg4(4@()(**()(7=o,)((9?)(A*(1)f7!(i0(f6L1)h(=@()(+*()+)(,(i!+xrq(mxmmmm" alh VZ
def alw:=U "g41()hos(p(/)+)*()f0((l)l(jg8(8@()(!*()(5yf!(ag>6.(6/)f8!)f7((l8k0((77(z)(=3()f?((l)l(jop*mmmq)38)f9((z(mmmlDlAl>l<l8l+t" [.look [1] 22 (.t 20) (.t 21) (.aS 2) true]
def Wc:=U "gE(@fB((z(nm"
def Pf:=aZ "g+,(h,(hg1(0+)(,(hxrq(mxmmm" alw Wc
def alx:=U "g71()hos(p(/)+)*()f3((l)l(j(5(;@()(!*()(8ygA+)(K/(f>((i0(mq)34)f5((z(mmmlCl@l=l4t" [.look [1] 25 (.t 23) (.t 24) (.aS 2) false]
def Wd:=U "gD(?fA((z(nm"
def Wg:=aZ "g+,(hg/(/@()(,*()+)(f/((i,((3+)(,(hxrq(mxmmm" alx Wd
def alz:=U "gK1()hos(p(/)+)*()fD((l)l(j(K>,(5,(!2,()(H(R(J=T)(bO),+(i/(mq)33)f4((z(mmmlLlMlQlSlUlBl3t"
def Wm:=U "g!,(hnm"
def Wn:=aZ "g!,(hg3(1(4@()(,*()=R,(f.((6.(6/)f4!)f3((i0((3H((z)(5f8((z(nmop)m(>>,(5,(.2,()(B(Bb1Z)(K+(>,/5,(.a,)(*i1((G+)(,(hxrq(mxmmmmm" alz Wm
def Pg:=U "g*9*9*g!<+0hg1(/4o0(7(((e(.1*e)4o1(e*7(:+(i/)f3<+f20hnmop(mg:.7*.7*(:Ro2*)(f,((6,(6!)f8!)f7((i.((77(((e((;e)4o0(e*7(:+(i.)fA<+f@0hnmop(m!?fB!(fADz(nmmmmm"
def ZQ:=U "g)9)9)0h)*(*())+(*()Q(*(((d()0)d)*()d*)1)d+*()d,=8*(;!(f4((i3(nmm"
def ZS:=U "g)9)9),(hg!8++*4o4(8+,*4o4(=o3*(f!((i,((!H((z)(/f1((z(nmop)m.3*4o4(G((l*l)j5+6(2+()4o5(5+8(2+()4o5(=o3+(f;((i.(nmop/m)=)*()+)()?)*()+)(#(+(i.))D)*()+)()F)*()+)(=o3+(f#((i.(nmop/m)M(*())N(*()=o6*(fP((i,((PH((z)(PfO((z(nmop)m)M)*())N)*()=o7*(fO((i,(nmmmmmmmm"
def ZV:=U "9(0h.)*yf)(Ol(lOjnmm" [.eP (some 4) 88 [.t 3,.c (.int .i64 4),.c (.bool false)]]
def awC:=U "g71()hos(p(()f1((z((7(2/+)(5+((2+()5+;(2+()Q(*(i/)(?(@(;/+)(5+()8+(*8+C*=^)(fC!/fB((i/(nmop0mmq)3:)f;((z(mmmlJl#lDlClBlAl@l>l:l1lnalnit"
def Z9:=U "ygK(#A)(oF+5+J(2+()8+O*b<*()))*(?+(A!(oF+fQ!(fRDi0(nm" [.nV 35 113 3 []]
def alA:=U "ga(U)N)*()+)(1+(((d((T;)(i/)os*p(mgl5+N)2+()(U/*)(8+(*5+O)2+()(U/*)(8+(*(MRd.)(f4((64(65)fM!)fT((i6(q+f8(Uf738)fU(7l8l7jmmlKlLlQlRlSlWlYlZl[ldlAl9t"
def Wp:=U "gnz(M(TfQ!)fR((l)l(jnm"
def Wq:=aZ "gS)N(*())O(*()#(*(((e()N)e)*()e*+)(e+)O)e,*()e!+)(e.#(+(:/(i5)fQ<+fR0hnmop(mfTDhfU,(hxrq*mxmmm" alA Wp
def aaa:=cn "g*9*9*g!<+0hg2./*4e(z)(2+)(,(z*xrq(mxmop+mxmm" awC Z9 Wq
def aad:=U "9(0h)))*()+)(G((((d().(d)*()d*yg2;+(((d()3(d)*()d*[((d+b((i;,(((d()9(d)*()d*[((d+_(o/;,(f=((i<(nmm" [.bin 10 0 .neq (.t 9) (.c (.str []))]
def awE:=U "g1(1>,(5,()2,()(5>,(5,((2,()+((1!(((d((<d)>,(d*5,((d+2,()d,(@d!>,(d.5,()d/2,()d0J,(d1b6(Ud2((e((Ge)>,(e*5,((e+2,()e,(Ke!>,(e.5,()e/2,()e0J,(e1b((Xe2((d((Kd)>,(d*5,((d+2,()d,(Kd!>,(d.5,()d/2,()d0J,(d1_(ae=;2(d#:>(dJ((e((Ke)>,(e*5,((e+2,()e,(Ke!>,(e.5,()e/2,()e0J,(e1b((o6e2((d((Kd)>,(d*5,((d+2,()d,(Kd!>,(d.5,()d/2,()d0J,(d1_(oOe=;2(d_:>(d_((e((Ke)>,(e*5,((e+2,()e,(Ke!>,(e.5,()e/2,()e0J,(e1b((ie2((d((Kd)>,(d*5,((d+2,()d,(Kd!>,(d.5,()d/2,()d0J,(d1_(o/e=;2(d_:>(;_(iU)os(p(m(K@()()*()3()@,)()`)(*i.(q)mlMl/t"
def aaf:=U "goC(K>,(5,((2,()(N(K>,(5,()2,()yfM(oMi0oMnm" [.qb 120 0 (.t 114) (some (.t 115)) (some (.t 119))]
def aag:=aZ "yhg+(+Co:(l)l(j(!@()()*()f.((i+(xrq(xmmmm" awE aaf [.hV 2 (.c (.str []))]
def alC:=U "g3(3>,(5,()2,()(7>,(5,((2,()+((1!(((d((>d)Yi(Vd*7(;+(i6)os(p(m(BCf(l)l(j(DCf(f@((l)l(j(@yf@(kl(lkjgH(Ah(#Cf(fE((l)l(jop*m(Eyz(gM.H+`+J(z(nmop)m)#*b+*(g+(#(K(QFh)(ygU?+(A.(g+)P*bQ*()i1(mmmmmq)mlLlQlRl>l7l3t" [.bin 32 0 .eql (.t 31) (.c (.str [110,111,116])),.bin 37 0 .eql (.t 36) (.c (.str [])),.build 45 [.bool false,.str [],.aS 2] [(0,1,.t 41),(1,2,.t 44)]]
def Wr:=U "gX.P+`+O(z(nm"
def aai:=aZ "g+T*+hg/(/(/Fh)(yf!T*+`+!Vi*Vxrq(xmmm" alC Wr [.build 11 [.str [],.aS 2,.aS 3] [(0,2,.t 10)]]
def aaj:List bo:=[.b 4 3]
def awF:=U "g4(4>,(5,()2,()(8>,(5,((2,()+((1!(i1)os(p(m(>Cf(f:((l)l(j);)b+*(A*(B(=Fh)(?*(A,(A*)B)bQ*()i/((HYi(T7(l*l)js(op(mmmq)mlJlEl@l5l(t"
def aak:=U "gK(KYi(Ql)l(j.H*`*J(z(nmm"
def Pk:=aZ "g+B*hg.(!b=*()(f+B*`*+(l)l(j(0Yi(P7(l*l)j..*`*0(z(nmop)mxrq(xmmmm" awF aak
def aal:List bo:=[.b 4 2]
def aan:=U "g+0h(,Co:(l)l(j(.>,(5,()2,()(2>,(5,((2,()+((1!(((d((9d)>,(d*5,((d+2,()d,(=d!>,(d.5,()d/2,()d0J,(d1(Ad2Q()(;3(i>)(E@()()*()3()@,)()`)(*i.(fHDhnmmop/mfH0hnmmmm"
def awH:=U "g41()hos(p(/++).(+f2b)*`+2(l)l(j!4)3).(*?*(A+(A*f9!(i,(mq)30)f1((z(mmml=l<l;l8l0t"
def Ws:=U "g=!:f<!(z(nm"
def aar:=aZ "9(<*hg!),(.(*bKA*(f!!(i*()/**()+)(,(z+xrq(mxmmm" awH Ws
def Pl:=U "g)9)g+,(hg.),(*()4W(7(((e(.1*e)4o;(:*(i/)f2,,hnmop(mg7)5(*()4o<(f+((6+(6,)y`,7)f6((i!(.:*4o=(((e((9e)((d()?)d)*()d*+)(d+)?)d,*()d!#(*(e0;.(:1(i4)fE,!hnmop(m.G*4o>(E(,l*l)jfH,+hnmop(m(F((d((Ld)((d()P*d)*()d*7(d!;+(d.((e((Le)7(e*((d()P+d)*()d*7(e.;+(d6:/(;7(i9)fO,.hnmop(mfO,(hnmmmmmmm" [.alloc 5 [.str [],.int .i64 0,.bool false,.bool false]]
def alD:=U "g91()hos*p(/)+)*()f5((l)l(j(54o@(((d((<d)(9d*=o+)(d+7(;,(i/)!A(>?)(A*(1)fE!(i+(op,mmq+37)f8((z(mmml#lGlDlBl>l7l!t"
def Wt:=U "g#3?)f@((z("
def alE:=aZ "g21()hos(p(/*+).(*f0B*`*0(l)l(j.0*yg7+)(,(z+xrq*mmq)xmmml9l7l4l2l.l*l)l(l]lgt" alD Wt [.eP (some 15) 106 [.c (.aS 1),.t 14]]
def Wu:=U "gJ!Gf#!(z(nm"
def aau:=aZ "g)<)hL1)hg/(/+)(,(hxrq(mxmmm" alE Wu
def alF:=U "g81()hos(p(/++).(+f5b)*`+5(l)l(j)5(*()((e()8)e))((e**()e+ygB:,(i/)!@)>).(*?*(A+(A*fE!(i,(!D)C).(*?*(A+(A*f#!(i,(p2mmq)3=)f>((z(mmmlKlLlMlHlGlEl=l3lnRlnSlnTlnUln[t" [.bin 26 0 .eql (.t 25) (.c (.str [100,105,115,116,105,110,99,116]))]
def alG:=U "gT1()hos*p(/)+)*()fT((l)l(j(R(T=o+)(7(i+)fM0hnmop(mmq+3/)f0((z(mmmlKlLlMlNlOlQlTlYlZl[l$lAl/l)t"
def Wv:=U "g)Dhnm"
def Ww:=aZ "gN(J4l(f#!(l)l(j(N4l(+)(,(z+xrq*mxmm" alG Wv
def aaw:=aZ "9(0hg1)0(.(*bKA*(f1!(i*(f0LA*h)3**()+)(,(z+xrq(mxmmmm" alF Ww
def alH:=U "g>1()hos*p(/++).(+f:b)*`+:(l)l(j(>);))((*()bP)+(i+(mq+3/)f0((z(mmmlFlDlAl?l:l/t"
def Wx:=U "gF3;)f<((z("
def alI:=aZ "g31()hos(p(/++).(+f1T*+`+1(l)l(j(3)2()((*()bP)+(i+()5**()+)(,(z+xrq*mmmq)xmmml>l<l9l7l2l*l)l(lbt" alH Wx
def WD:=U "gG(Dyz((ECnt(fH!(l)l(jnmm" [.qd [1] none (.t 32) (.c (.str [100,105,115,116,105,110,99,116]))]
def aay:=aZ "g)<)hg/Pf!((z((0+)(,(hxrq(mxmmm" alI WD
def aaC:=U "9(,(h))**()z)f*,)hnmop(mf*,(hnmmm"
def alJ:=U "g01()hos(p(/*+).(*f.B*`*.(l)l(j!0)/(2*())1)2*()4np(b>*()+))(?*(A/(A*f9!(i0(mq)34)f5((z(mmml=l;l8l4t"
def Yd:=U "g=!:f<!(z(nm"
def uX:=aZ "g)<*hLA*hg!(!+)(,(hxrq(mxmmm" alJ Yd
def aaE:=U "g+<+hg!(!CoA(f*!(l)l(j(*(/FoB)(i*(!!f/!(z(u.o@+nmmmm"
def kD:=U "S(yhg*b9oC)f)((z(nmm" [.hV 2 (.c .k4)]
def JJ:=U "g)<)h(*CoG(CoF(f+!(i*(nmm"
def awS:=U "g31()hos(p(/++).(+f2T*+`+2(l)l(j.2+4L(f3((l)l(j(3H((z)(5f9((z(nmop)mmmq)30)f1((z(mmml<l:l8l7l4l0l*t"
def aaQ:=U "g),(hnm"
def aaR:=aZ "g),(hg!(!+)(E(oUl*l)jf.,*hnmop(m(0+)(,(hxrq(mxmmm" awS aaQ
def awT:=U "g?1()hos(p(/*+).(*y`*:(l)l(j(<);)*()bA*(f@((i+(mq)3/)f0((z(mmmlElDlBl?l>l=l<l;l4l/lnKlnLlnMlnNlnXt" [.alloc 8 [.str [],.int .i64 0]]
def alK:=U "gM1()hos*p(()/+,*.(+fFT*+fG(*`+F(i*((O)G()((*()=oH+(fJ((i,((JbF((z)(T(W(T(W/))(b:(+)(U?)(A*(+)/)0/bR()i1(op2mmmq+3=)f>((z(mmmlKlMlNlPlQlSlUlVlWl^l`lalblcl=l3t"
def Ye:=U "gc!TfM!(fN,(z(uToe)nm"
def Yf:=aZ "gG(A3()yf@!mi)mgJ(J+)(,(hxrq*mxmm" alK Ye [.s5 34 144 [.aS 1] (.t 33)]
def aaU:=aZ "g)<),(hg5(54M(f*((6*(6+)f5!)f4((i,((4H((z)(6f:<)f9((z(nmop)mf6Uh(8+)(,(hxrq(mxmmmmm" awT Yf
def aaV:=U "g)0h(*+)(E(t6l*l)jf+0hnmop(m(!b3o#(oJ7(f.((i*(nmmm"
def aaW:=U "yhPPyg+S(f,((i+(nmm" [.hV 0 (.c .fl),.build 3 [.ha,.ha] [(0,1,.t 1),(1,1,.t 2)]]
def Pn:=U "g*9)0hg/.,*4oK(f,((l)l(jg2(2@()((*()(1b!))(*f.((6.(6/)f4B*`*4)f3((l4k0((3hf70hnmop(mm(;>,(5,((2,()(:8+=*bO)*)(i!((A>,(5,()2,()5+B(2+()(G>,(5,()2,()5+H(2+()ygN8+N*?*(A*(A*yi7(fODhnmmmmmm" [.iN [1] 38 (.t 35) (.t 37) (.list (some 25) 2 []),.q5 [1] (.t 29) (.t 31) 41]
def alL:=U "g<b,(6((z)os*v*p(b/*6()f8B*`*8(l)l(j)>(*().:*Fny)(i+(mq+mmlDl@l?l>l<l5l2l.lnKt"
def Yg:=U "gD)B(*()@()((*()+*(E(t6i.)fG,3hnmop(m"
def alM:=aZ "g1./)(1FoL)(f+((6+(6,)f1()f0((i!((0hf3,+hnmop(m(2+*(G((l*l)jf6,(hnmop(m(5b*(z)xrq*mxmmmmq)l<l8l7l6l4l!l*l(lalnKt" alL Yg
def aaY:=cU "g)bD)g+,(hxrq(m" alM
def awV:=U "g31()hos(p(()/*,*.(*f2B*f3(*`*2(i*((4(4)4(2*())6)2*()4o((b>*()+))(/*/.a,*()i0(mq)35)f6((z(mmmlAl?l=l<l5t"
def aa0:=U "gA!>f@!(z(u?A*nm"
def Po:=aZ "g)<*hg!(!+)(yf,!Si)Sg0(0+)(,(hxrq(mxmmm" awV aa0 [.s5 8 25 [.str [],.aS 2] (.t 7)]
def alN:=U "g8b,(6((z)os(v*p(b/*6()f7B*`*7(l)l(j!9.8*?*(A*(A*f=!(i+(mq)mml@l>l;l.t"
def Yh:=U "g@(=4oM(f@!(l)l(jnm"
def aa3:=aZ "g)<*hg!(!@()((*()+*(b#(A*f0!(i!((3@()((*()b*(i,)xrq(mxmmm" alN Yh
def awX:=U "g.()(/+)(1*(((d((.d)(3d*+)(d+1*(;,(i1)os(p(mg:(:(6/*)(8+(*(=(:/*)(8+(*=oN,(f=((i0((=H((z)(?fB((z(nmop)mmq)f5(Af435)fA(4l5l4jmmlBl@l6l)t"
def aa5:=U "gF(F+)((G+)(=oO*(fG((i,(nm"
def aa6:=aZ "g+,(h,(hxrq(mxmm" awX aa5
def aa9:=U "g+0h(,(,=oP)(bF((f,((i+(nmm"
def abc:=U "g+<)h(,CoR((!FoQ)(Cnt(f!!(i,(nmm"
def alO:=U "gP1()hos(p(/*+).(*fSB*`*S(l)l(j.S*(LM()(MRo!+)(7(i!)fQ0hnmop(mmq)31)f2((z(mmmlKlQlSlJlFl1l)t"
def Yi:=U "gZ)N(*()4W(fQ((i*(nm"
def wP:=aZ "g*9*g!0hg0(/N()((e()0)e)*()e*+)(e+E(,:,(i/)f20hnmop(m)5)*()+)(G((i+))9(*()4W(((e()=(e)*()e*4oS(:+(((e((Ce)((d()D(d)*()d*4o@(e!;+(:.(fF((i7(nmop8m)#)*()+)(,(z+xrq(mxmmmm" alO Yi
def aw0:=U "g<(7(=+((1*(i+)os(p(mgB(B(>J)(ygF=oT)(7(i!)fD0hnmop(mq)f/(Cf.3/)fC(.l/l.jmmlGlDl4l0l(t" [.q4 30 (.t 3) 3 2 none none]
def abf:=U "g+Dhnm"
def CF:=aZ "g*9)0hg!(!+((N()((e((1e)+((e*E(8:+(((e((6e)[((e*ye*g9=oT)(e,7(:!(i6)f80hnmop(mf7,(hxrq(mxmmm" aw0 abf [.q4 17 (.t 3) 3 2 none (some (.c (.int .i64 1)))]
def abh:=U "g*9*9*g!<+0hg1.!*4`(7(((e((3e)4oU(e*7(:+(i/)f3<+f20hnmop(mg:.7*.7*(:RoV*)(f,((6,(6!)f8!)f7((i.((77(((e((;e)4oU(e*7(:+(i.)fA<+f@0hnmop(m(?4oW(fC!(fBDl)l(jnmmmmm"
def alP:=U "g.(+(/+)(1*(i+)os(p(mg4(4(2/+)(5+((2+()4oX(7(((e((<e)(:e*/+)(e+5+()e,8+(*e!4oY(e.7(:/(((e((Be)E((e*((d((Hd)(Fd*M()d+/+*(d,5+((d!2+()d.(Kd/(Nd0/+)(d15+((d22+()d3bE!(e7;4(:8(i#)fM0hnmop(mq)fV(NfJ3V)fN(JlVlJjmmlMlQlUl(t"
def Yl:=U "g)Dhnm"
def abi:=aZ "g)0hg+(++)(E(hl*l)jf,0hnmop(mf+,(hxrq(mxmmm" alP Yl
def Pp:=U "9(0h.)*yf)(Ol(lOjnmm" [.eP (some 4) 133 [.t 3,.c (.int .i64 4),.c (.bool true)]]
def aw2:=U "gU(J)N)*()+)(1+(((d((U;)(i/)os(p(mg`5+N)2+()(V/*)(8+(*5+O)2+()(V/*)(8+(*(MRo2.)(f4((64(65)fM!)fU((i6(q)f8(Vf738)fV(7l8l7jmmlKlLlQlRlSlTlXl`lAl9t"
def abl:=U "gnn(M(UfQ!)fR((l)l(jnm"
def Pq:=aZ "g*9*9*g!<+0hg3.0*4o[(z)g6(4)4(*()=o$*(f,((6,(6!)f4B*`*4)f3((i.((3h(;.6*.;*=^)(f;!+f:((i+(nmop,m(?)?(*().@*b<*()))*(=o],(fA!(f@Di!(nmmmop:m)D(*())E(*()#(*(((e()J)e)*()e*+)(e+)O)e,*()e!+)(e.#(+(:/(i5)fQ<+fR0hnmop(mfUDhfJ,(hxrq(mxmmmmm" aw2 abl
def CG:=U "g+,(h(,(,1)(l*l)jf+Uhnmop(m(/(/V)(l*l)jf.,)hnmop(mf.,(hnmmmm"
def abq:=U "9(,(h)))*()+)(E((i+)f,,+hnmop(m)!(*()4o^(l*l)jf/,(hnmop(m)0(*()4oX(l*l)jf2,*hnmop(mf2,)hnmmmmm"
def Yn:=U "g),(hg!(!4o_(f*((6*(6+)f.()f!((i!((.f0((z(nmmm"
def Yo:=U "g+,(h(,(,1)(l*l)jf+Uhnmop(m(/(/V)(l*l)jf.,)hnmop(mf.,(hnmmmm"
def aw5:=U "g.()(/+)(1*(((d((.d)(3d*+)(d+1*(;,(i1)os(p(mg:(:(6/*)(8+(*(=(:/*)(8+(*=_,(f=((i0((=H((z)(?fB((z(nmop)mmq)f5(Af435)fA(4l5l4jmmlBl@l6l)t"
def abt:=U "gF(F+)((G+)(=o3*(fG((i,(nm"
def abu:=aZ "g+,(h,(hxrq(mxmm" aw5 abt
def alQ:=U "g)()>,(5,()2,()(!>,(5,((2,()+((1!(((d((4d)>,(d*5,((d+2,()d,(8d!>,(d.5,()d/2,()d0J,(d1b6(Hd2((e((?e)>,(e*5,((e+2,()e,(Ce!>,(e.5,()e/2,()e0J,(e1b6(2d=:2(;>(i#)os(p(m(K@()()*()3()@,)()`)(*i.(q)ml/t"
def Pr:=cU "xrq(" alQ
def abC:=U "9(0hg,)+)*()+)(G((i+)g1)0(*()4ok(f+((6+(6,)f3()f2((l3k!((27(((d()8(d)*()d*4W(d+7(;,(((d()>(d)*()d*4o@(d+7(;,(fB((i5(nmmop<m)C(*()4W(7(((e()H)e)*()e*b3o#(o;:+(fM((i0(nmmm"
def Ps:=U "9(yg*0hyg!b9om,Fol)(f+((i*((+N((z)y`,/Uf.0zUnmop(mg2(.yg4.(,`,3(f2Di*(nmmmm" [.alloc 2 [.str [],.int .i64 0,.bool false,.bool false],.q4 5 (.g 0) 10 4 none none,.build 10 [.str [],.int .i64 0,.bool false,.bool false] [],.oJ 12 (.g 0) 10 4 (.t 11)]
def abE:List bo:=[.b 2 4,.t 3]
def Pt:=U "9(0h)))*()+)(E(,((e().)e)*()e*b3o#(o=:+(f1((i0(nmm"
def aw9:=U "g11()hos(p(/*+).(*f/B*`*/(l)l(j(1.0*4o>(bA*(f5((i+(mq)3/)f0((z(mmml9l8l7l4l/t"
def abG:=U "g9(63()f9((l)l(jnm"
def abH:=aZ "9(,(h,(hg!),)*()+)(,(z+xrq(mxmmm" aw9 abG
def axa:=U "g;1()hos(p(/*+).(*f8B*`*8(l)l(j!>.9*yf@!di)dmq)gA3.)f/((z(mmmlAl?l>l<l8l.t" [.lX (some 25) 106 23 [.t 24]]
def abI:=U "gB!Bf?!(z(nm"
def abJ:=aZ "g*9)<)hg.)+)*()+)(G((i+)!2)0(*()?)(A+(1)f3!(i,(nmop!m)4)*()+)(,(z+xrq(mxmmm" axa abI
def abL:=U "g)0h(*yyyyg/=o.,(f.((i!(nmm" [.build 4 [.int .u8 0,.int .u8 0] [(0,1,.c (.int .u8 65)),(1,1,.c (.int .u8 90))],.build 5 [.int .u8 0,.int .u8 0] [(0,1,.c (.int .u8 97)),(1,1,.c (.int .u8 122))],.build 6 [.int .u8 0,.int .u8 0] [(0,1,.c (.int .u8 48)),(1,1,.c (.int .u8 57))],.build 7 [.int .u8 0,.int .u8 0,.int .u8 0,.int .u8 0,.int .u8 0,.int .u8 0] [(0,2,.t 4),(2,2,.t 5),(4,2,.t 6)]]
def abP:=U "g)<+h(*bMon+(f*!(l)l(jnmm"
def ab6:=U "g)<)hg+(+Coq(f*!(l)l(j(*Ca(l)l(j!,f.!(z(u!1)nmmmm"
def ab8:=U "S(yhg*b9or)f)((z(nmm" [.hV 2 (.c .k4)]
def acb:=U "g*9),(hg!(!b9ot+Fos)(f+((i*((+N((z)f.Uhnmop(m(2(./*)()()*()f3((i,(nmmmm"
def ace:=U "g+0h(,(,Fou)(bF((f,((i+(nmm"
def acg:=U "9(0hg,)+(*()yg/((d()/)d)*()d*+)(d+G();,(f2((i0()4(*()yg8((d()8)d)*()d*+)(d+G(*;,(f:((i0((;7(((d((=d)7(;*(((e(.D*e)4`(e*7(:+(fG((i2(nmmmm" [.bin 7 0 .eql (.t 6) (.c (.str [116,114,117,101])),.bin 16 0 .eql (.t 15) (.c (.str [100,111,101,115]))]
def yr:=U "9(yhyhg+.**Fov)(l)l(jCow*f,((z(nmmmm" [.hV 2 (.c (.str [])),.vy 3 217 [.fl,.aS 1]]
def O5:=U "g81()hos(p(/++).(+f2T*+`+2(l)l(j.9).3+bJoy67Wox*)(i+(mq)3/)f0((z(mmml@l?l<l;l7l6l4l/lelglnQt"
def alR:=U "gBb,(6((z)os*v*p(b/*6((f<((l)l(jgG)E(*()@()((*()(Bb!))(*f/((6/(60)fEB*`*E)fD((lEk1((Dh*Q)(Hyl)l(jop*mmmq+mmlKlLlOlPlJl#lGlElDlClBl7l*t" [.qd [1] none (.t 42) (.t 43)]
def yv:=U "gS2,Q)2,R)fO()fP((l)l(jnm"
def Yr:=aZ "g@*:)b*(z)xrq*mxm" alR yv
def Ah:=aZ "g)bD)yg,0hg4Pyy`)/(yz((4+)(,(hxrq(mxmmm" O5 Yr [.hV 4 (.c .ha),.kc 6 [.ha],.kc 7 [.bool false],.st 1 (.t 7) (.c (.bool false))]
def T9:=U "g51()hos(p(()/*,*.(*f3B*f4(*`*3(i*((4G((((e((9e)(8e*M()e+/**(e,8+(*e!8);*e.=oN)(e/H((:0(i3)!A.@*4p)(?*(A+(A*fF!(i,(op!mmq)3=)f>((z(mmmlKl#lFlEl=l.t"
def Aj:=U "gK!GfJ!(z(nm"
def Cr:=aZ "g)<*hg.(.Coz(f!!(l)l(j(!b3p((oNl)l(jf.LA*hu/A*(/+)(,(hxrq(mxmmmmm" T9 Aj
def aci:=U "g)9)9),(hg.8+,*4p*(8+!*4p*(yya),!*a),,(i+(g3..,..,yf*(Yi)Yg6)4)*())5)*()=o**(f7((i,(nmg<)7(*())8(*()#(*(f!((i,()<(*())=(*()=oO*(fB((i,(nmgG)B)*())C)*()#(*(f!((i,()G)*())H)*()=oO*(fO((i,(nmgR)P**())Q**()#(*(f!((i,()P**())Q**()=oO*(fO((i,(nmop2mp=mpHmpVmq()P+*())Q+*()=p+*(fO((i,(nmmmm" [.alloc 5 [.int .i64 0,.int .i64 0,.int .i64 0,.str []],.alloc 6 [.int .i64 0,.int .i64 0,.int .i64 0,.str []],.ur 14 false [0,0,0,1] (.t 12) (.t 13)]
def acj:=U "g+,(h(,(,1)(l*l)jf+Uhnmop(m(/(/V)(l*l)jf.,)hnmop(mf.,(hnmmmm"
def alS:=U "g01()hos(p(()f!((z((1(3(//))(*()Q(,(i!)(3f5((z(nmop)mmq)31)f2((z(mmml6l5l1l*t"
def Ys:=U "g+Uhnm"
def ack:=aZ "g+,(hg!(!+)(,(z*xrq(mxmm" alS Ys
def alT:=U "g4(.+)(E((l*l)jos(p(m(1(2+)(M()/)+(*()f6((i!((7(8+)(M()b7)+(f<!(i,((=(<ygE7(i+)(A(@bP))(l)l(j!B(#(CygLZ1)+(fG!(i,(mop/mmmq)mlLl#lFl>l/t" [.look [1] 29 (.t 27) (.t 28) (.bool false) false,.look [1] 36 (.t 34) (.t 35) (.aS 1) false]
def Yt:=U "gM(HfJ((z(nm"
def acm:=aZ "yhg/Pf+((z((0(0yg3Cp,(f.!(i+(xrq(xmmmm" alT Yt [.hV 4 (.c .ha),.look [1] 11 (.t 9) (.t 10) (.aS 1) false]
def axl:=U "g11()hos(p(/++).(+f/bN`+/(l)l(j(1)0(2*()(4)3(2*()yg;)6)2*()?)(A+(1)yi2(mq)36)f7((z(mmml@l>l;l6t" [.iN [1] 19 (.t 16) (.t 18) (.list (some 9) 1 []),.q5 [1] (.t 13) (.t 15) 23]
def Pv:=U "g@(=f?((z(nm"
def acn:=aZ "yhg!Pf+((z((.+)(,(hxrq(mxmmm" axl Pv [.hV 2 (.c .ha)]
def aco:=U "g)0hg!(!4ok(f*((6*(6+)f.()f!((l.k,((!f0((z(nmmm"
def axm:=U "g11()hos(p(/*+).(*y`*.(l)l(j(4)/(*()bE*(((d((9d))4)d**()d+b5*(;,(i1)f:Dhnmop(mmq)35)f6((z(mmml>l;l9l5l)t" [.alloc 6 [.int .u8 0,.int .u8 0]]
def acq:=U "g+0hnm"
def JO:=aZ "g+0hg.(!+)(,(hxrq(mxmm" axm acq
def alU:=U "g21()hos(p(()/+,*.(+yf3(*`+2(i*()2(2*()4o@(7(((e()7)e)8*(*e*4V(e+7(:,(((e((>e)E((e*((d()@(d)2*()d*(Fd+(Dd,M()d!/+*(d.5+((d/2+()d0b5.(e4;1(:5(i@)fM0hnmop(mmq)3E)fF((z(mmmlMlNlOl#lEl)t" [.alloc 4 [.str [],.str [],.aS 2]]
def Yu:=U "g)Dhnm"
def acs:=aZ "g)0hg,(,+)(E(hl*l)jf!0hnmop(m(/+)(,(hxrq(mxmmm" alU Yu
def axn:=U "g$1()hos(p(()fV((z(g_5+N)2+()(V/*)(8+(*5+O)2+()(V/*)(8+(*(MRoV.)(f4((64(65)fM!)fU((i6((U7(z)fQ<+fR0hnmop(mmmq)3;)f<((z(mmmlKlLlQlRlSlTlUlVlXl`l@l;l)t"
def acv:=U "gnp(MfQ!(fRDz(nm"
def acw:=aZ "g*9*9*g!<+0hg3.0*4p!(z)g6(4)4(*()=p.*(f,((6,(6!)f4()f3((i.((3h(;(<(7/+)(5+()8+(*8+?*=p/)(f?!/f>((i/(nmop0mm(C)C(*().D*Rp0+)(fD!(fCDi,(nmmop=m)G(*())H(*()#(*(((e()N)e)*()e*+)(e+)O)e,*()e!+)(e.#(+(:/(i5)fQ<+fR0hnmop(mfUDh)N)*()+)(,(l+l*jxrq(mxmmmmm" axn acv
def axo:=U "g01()hos(p(/++).(+y`+.(l)l(j!0)/(2*())1)8*(*4p1(b<*()+)*(?+(A/(p>+f9!(i0(mq)34)f5((z(mmml=l;l8l4t" [.alloc 5 [.str [],.str [],.aS 2]]
def acy:=U "g=!:f<!(z(nm"
def acz:=aZ "g)<+hLp>+hg!(!+)(,(hxrq(mxmmm" axo acy
def alV:=U "g<1()hos(p(()f;((z((>(<J)(4p3(7(((d((Dd)(Bd*J)(d+4p2(d,7(;!(((d((Kd)(#d*J)(d+4p4(d,7(;!(i:)fM0hnmop(mmq)3=)f>((z(mmmlMlNlAl=l)t"
def YA:=U "g)Dhnm"
def acA:=aZ "g)0hg+(++((N()((e((/e)+((e*E(8:+(((e((4e)[((e*4p2(e+7(:,(i5)f70hnmop(m(9+((,(z*xrq(mxmmm" alV YA
def acB:=U "9(0h.)*yf)(Ol(lOjnmm" [.eP (some 4) 133 [.t 3,.c (.int .i64 4),.c (.bool false)]]
def alX:=U "gM1()hos(p(()fH((z()N)*()(J/*)(.(*(LM()(MRoZ+)(7(i1)fQ0hnmop(mmq)34)f5((z(mmmlKlQlRlTlXl9l4l)t"
def YB:=U "g!Dhnm"
def acC:=aZ "g*9*g!0hg/(.N()z)f+0hnmop(m).)*()+)(G((i+).2*4p5(((e((6e)7(e*((d(.8*d)4p6(e!;*(:.(f9((i1(nmop2m)<(*()4p7(7(((e()A)e)*()e*+)(e+E(,:,(i1)fC0hnmop(m)F)*()+)(,(l+l*jxrq(mxmmmmm" alX YB
def acE:=U "9(0h)))*()+)(G((((d().(d)*()d*4oX(;+(f1((i0(nmm"
def al1:=U "g.(((/+)(1*(i+)os(p(mg4(4(//+)()((*()(8Q()(i.)(;(6/+)()().(*`*<(f;Di,(nmop!mq)f5(:f435)f:(4l5l4jmml;l6l!t"
def YD:=U "y`*Odg,0zdnm" [.build 25 [.str [],.aS 2] []]
def acG:=aZ "g+B*0h,(hxrq(mxmm" al1 YD
def axp:=U "g/(((0+)(1*(i+)os(p(mg5(/7(((d(5+5(d)2+()d*(:d+(4d,/+)(d!5+((d.2+()d/1!(;0(i3)!<.?+?+(A*(p>+f@!(i+(f?Dhmop,m!@(F(@/+)(.(+?+(A!(p>+fG!(i.(mq)f@(Ef?3@)fE(?l@l?jmmlLlHlAl3lnNt"
def acI:=U "gL(F7(z)!#.N+?+(A*(p>+fP!(i+(op,m!PfO!(z(nmm"
def JP:=aZ "g*9)<+hLp>+h0h,(hxrq(mxmmmm" axp acI
def acL:=U "g)0hg!(!4o_(f*((6*(6+)f.()f!((l.k,((!f0((z(nmmm"
def axr:=U "gB1()hos(p(()f?((z((D(@J)(4p4(7(i,)fG,(fF0hnmop(m(Eb?2((K(GJ)(ygO$(K!(fO((i/(mmq)37)f8((z(mmmlMlNlPl;l7l1t" [.bin 39 0 .sub (.t 38) (.c (.int .u8 48))]
def Jj:=U "gR(OfM((fNDz(nm"
def acP:=aZ "g),(0hg!(!+((N()((e((1e)+((e*E(,:+(((e((6e)+((e*E()e+((d((:d)[((d*b6(Xe/;+(:0(i9)f=,(f<0hnmop(mf;,(h(?+((,(z*xrq(mxmmmm" axr Jj
end AM
