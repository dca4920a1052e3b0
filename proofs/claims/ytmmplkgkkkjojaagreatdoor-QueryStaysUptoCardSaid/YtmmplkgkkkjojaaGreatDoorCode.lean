/- The program's functions as code of the abstract machine. Conditions: none; definitions alone. -/
import Derived.Test.YtmmplkgkkkjojaaGreatDoorAm4
import Derived.Test.YtmmplkgkkkjojaaGreatDoorAm5
set_option maxRecDepth 100000
namespace AM
open Go
def af0:=U "gU(T(L,)(0*(i+)os(p(mg[(R(L(T.,)(/(,C<,(i!(q)f/(Tf.1/)fT(.l/l.jmmlMlQlSlUlVlWlXlYlZl#l=l0lnflnyt"
def Uk:=U "ga(R)P)*()C5*(F((i,)O3fQ((z(nmop)mgh(K?4(f*((5*(5+)fU()fV((i,((VF((((e((Ue)ygnq=*(((e((Ue))P)e**()e+C5*(e,F((=!(i4)fQ3hnmop(mgnz(R)P*/(*C6*(f,((5,(5!)fW+)fX((i.(go.(U)P*/(*C6*(f,((5,(5!)fY+)fZ((i.((W(Y<8)(((d((Xd)(Zd*M()(8+(((d(O38)(fQ((i2(nmmmmmm" [.bin 73 2 .eql (.t 72) (.c .fl)]
def Ul:=aZ "g,:*3hg7(7bCV,(8@)(V,9+6,A,(@*(V,<;.(7(i0)O3f;((z(nmop)mgB(B?4(f*((5*(5+)f?()f>((i,((>F((((e((Be)ygK=*(i!)(DF((((d((Hd)ygQ8*(((d(O38)(fQ((i0(nmop1mfT!(hxrq(mxmmmmm" af0 Uk [.bin 35 2 .eql (.t 34) (.c .fl),.bin 41 2 .eql (.t 40) (.c .fl)]
def Um:List bo:=[.t 6]
def af1:=U "gP(G(L,)(0*(i+)os(p(mgV(R(L(T.,)(/(,C<,(i!(q)f/(Tf.1/)fT(.l/l.jmmlKlMlQlSlUlVlWlXlYlZl[l$lJlAl5l0lnalnklnvt"
def agD:=U "gnt(Zb>((z)os*p(mgnx+Y)P)*()(Z.*)(/(*A*(@.(A*fY+(i/(q+f1(Zf0L1)fZ(0l1l0jmmlKlLlMlQlSlTlVl[l$l]lflnOlnTlGl=l2t"
def VX:=U "go!(R(YC5)(f[((i*(go1(R)P*/(*C6*(f,((5,(5!)f$+)f]((i.(([E((((d((]d)E((8*(((d((Ud)($d*<8)(8+(((d((Rd)?=(d*(Wd+M()(8,(((d((Rd)?>(d*(Xd+<?)(8,(((d(O38)(fQ((iA(nmmm"
def VY:=aZ "g$(R)P)*()C5*(F((i,)O3fQ((z(nmop)mgc(R)P*/(*C6*(f,((5,(5!)fU+)fV((i.((VF((z)O3fQ((z(nmop)m(R?=((R?>(fW(*fX+(i+(fYKA*h)P)*(),)(L()fZ((i+(xrq*mxmmmmmm" agD VX
def VZ:=aZ "g,:*3hg:(:bCV,(;@)(V,9+9,A,(@*(V,<;.(7(i0)O3f>((z(nmop)mgE(E?4(f*((5*(5+)fB()fA((i,((AF((((e((Ee)ygN=*(i!)O3fJ((z(nmop)mfG!(hxrq(mxmmmmm" af1 VY [.bin 38 2 .eql (.t 37) (.c .fl)]
def ahi:=U "gS(J(L,)(0*(i+)os(p(mgY(R(L(T.,)(/(,C<,(i!(q)f/(Tf.1/)fT(.l/l.jmmlQlSlUlVlWlXlYlZlAl5l0lnglntlo:lo>loGt"
def ake:=U "gnp(X(U,)(0*(i+)os*p(mgnv(V(U(X.))(*()<A,(fY+(i!((Yygo+7(((d((Yd)yd)go/7(8+(((d((Wd)(Ud*(Xd+.))(d,*()d!<B,(d.7(8/(i8)fQ3hnmop(mmq+f@(Xf?1@)fX(?l@l?jmmlKlLlMlQlRlSlTlYlZlilnRlnWlnglAl(lo>loGt" [.eP (some 86) 26 [.t 85,.c (.str [116,114,117,101])],.eP (some 90) 26 [.t 89,.c (.str [100,111,101,115])]]
def akf:=U "go:(Z(W,)(0*(i+)os,p(mgo@(U(W(Z.))(*()<B,(7(i.)fQ3hnmop(mq!f0(Zf/10)fZ(/l0l/jmmlKlLlMlQlRlSlTlVlXlYlilnRlnWlnglntl5l1l(t"
def Wg:=U "goGO3fQ((z(nm"
def Wi:=aZ "g6!(hxrq,mxm" akf Wg
def Wu:=aZ "g_(R?>(fU+(l)l(j(K6@(fV+(l)l(j(R(MC5)(F((i+)(R?>((U<?)(((d(O38)(fQ((i.(nmop/m(R?>(fW+(l)l(jfX!(hxrq*mxmmmmm" ake Wi
def JG:=aZ "g!3hg7(7(7<;)(7(((e((:e)b(0(de*7(=+(((e((Ae)(@e*<2)(e+7(=,(i6)O3fA((z(nmop)mgH(H?4(f*((5*(5+)fE()fD((i,((DF((((e((He)ygQ=*(i!)O3fQ((z(nmop)mfJ!(hxrq(mxmmmmm" ahi Wu [.bin 41 2 .eql (.t 40) (.c .fl)]
def akh:=U "gN0()hos*p(()fJ((z((K(P.+)()(**()(Q.+)()()/(*b(1(<7(i2)fO3hnmop(mmq+15)f6((z(mmmlLlOlQlUlYl=l5l)t"
def Ww:=U "g$1X)fX((z("
def aki:=aZ "g50()hos(p(()f2((z((7(3.+)()((/(*b(1(<7(((e((?e)(;e*.+)(e+)(*e,*()e!,)(e.H(0=/(i7)fC3hnmop(m(G(C.+)()(**(),)(!(i.*xrq*mmmq)xmmmlLlJl#lHlDl@l/l)l(lnOln[t" akh Ww
def Wx:=U "g](KyfO(n_l(ln_jnm" [.eP (some 55) 10 [.t 54,.c (.aS 2)]]
def Yj:=aZ "g+3hg.(.,)((/Z)(i+)f.3hnmop(m(2,)(!(z*xrq(mxmmm" aki Wx
def Yk:List bo:=[.t 4]
def akj:=U "g40()hos(p(()f1((z((6(2.*)(/(*(9<1)(7(i.)f93hnmop(mmq)11)f2((z(mmml:l9l5l1l)t"
def zc:=U "g+Ghnm"
def Li:=aZ "g+3hg!(!,)((.Z)(i+)f!3hnmop(m(1,)(!(z*xrq(mxmmm" akj zc
def rE:=U "g):)g+3h/**(,(!WC*)((/b4)(f.((i!(nmm"
def avU:=U "gC0()hos(p(()f<((z((=(E(>.*)(/(*$,(i!(mq)10)f1((z(mmmlHlFlClBlAl@l?l>l=l<l;l:l9l8l0lnUln$ln]ln^lnllnnlnolnplo,lo4lo5lo6lo8loYlotloulovt"
def akl:=U "gno0()hos.p(()f[((z(gnr(K(X.+)(4+((9+(*(Y([.))(2+()<H,(f2((52(53)f$D*a)*$)f]((i4((]h+W/$*A*(@*(A*fW+(i+(op,mmmq/1<)f=((z(mmmlLlOlQlTlZl[l$l]l^l_lelflglnUln^l@l<l!lo4lo5lo6lo8loYlotloulovt"
def Ye:=U "go11n])fn]((z("
def akY:=aZ "g]0()hos,p(()fX((z(g`(P(K(X.+)()(**()(VUG.)(f0((50(51)fY+)fZ((i2((Z7(z)fO3hnmop(m(Y,)(!(z*xrq.mmmmq!xmmmlLlOlQlTlXlYlZl[l$l]l^l_lelflglBl9l+l)l(lnplo,lo4lo5lo6lo8loYlotloulovt" akl Ye
def alm:=U "go50()hos0p(()f^((z(go8(V(^.*)()()*(),)(E()((d((Vd)(^d*.*)(d+)((d,*()d!yd!goF((e((Ve)(^e*.*)(e+)((e,*()e!yd4goM=.(86(f?((i>(+W(V(^.*)()()*()ygoVA*(@/(A*fW+(i0(goY(V(^.*)()()*(),)(E(*((d((Vd)(^d*.*)(d+)((d,*()d!ygog8.(f7((i6(+W(V(^.*)()()*()ygooA*(@/(A*fW+(i0(op@mpo8mq2mq11o5)fo5((z(mmmlLlOlQlTlXlYlZl[l$l]l^l_lelflglnUln$ln]ln^lnllnnlnolnplo,lo6lo8lAlotloulovt" [.bin 113 0 .eql (.t 112) (.c (.str [105,110,105,116])),.bin 120 0 .eql (.t 119) (.c (.str [110,101,120,116])),.build 129 [.str [],.aS 2] [(0,1,.c (.str [116,114,117,101])),(1,1,.t 128)],.bin 146 0 .eql (.t 145) (.c (.str [108,101,103,97,108])),.build 154 [.str [],.aS 2] [(0,1,.c (.str [100,111,101,115])),(1,1,.t 153)]]
def aln:=U "gou0()hos3p(()f_((z((S(W(_.*)(/(*$,(i!(mq410)f1((z(mmmlLlOlQlTlVlXlYlZl[l$l]l^l_lelflglnUln$ln]ln^lnllnnlnolnplo,lo4lo5lo6lo8loYl0t"
def Yf:=cU "gor(W,)(!(z*xrq3m" aln
def Yg:=aZ "go2(V,)(!(z*xrq0mxm" alm Yf
def alo:=aZ "gL(B*F),)(0*(((d(*J)d),)(d*b<(z,8+(i0)os*p(m*R),)(fU((l)l(j*R)(Ub)*)(fV+(i*(fWKA*h(K,)(!(z*xrq,mxmmmmq+mlLlOlQlTlVlWlXlYlZl[l$l]lJl#lClBlAl0l)l(ln^lnllnnlnolnplo,lo4lo5lo6lo8loYlotloulovt" akY Yg
def Yh:=U "gp+*R),)(b<(z,fO((i*(nm"
def Yl:=aZ "g1Vhxrq*mxm" alo Yh
def Ym:=aZ "g+3hyg=S(f9((l)l(jQy`)9(z(f8bH*hbKD98f8((z((?,)(!(z*xrq(mxmmmmmm" avU Yl [.build 21 [.int .i64 0] [(0,1,.c (.int .i64 1000000))],.kc 6 [.ha]]
def Yp:=U "f(3hyg4?4(f*((5*(5+)f6()f5((i,((5F((((e((9e)yg<=*(((e((=e)ye)g@C5)(e+F((=,(i3)fC3hnmop(mgD(CygFC6)(f+((5+(5,)fF+)fE((i!(gJ(#ygLC:)(f+((5+(5,)fJ()f#((i!((OF((((e((Ne)ye)gT<8)(e+7(=,(((e((Pe)7(=*(((e((Qe)F((=*(((e((Le)?=(e*F(+=+(((e((Le)?>(e*ye*gh<?)(e,7(=!(iC)fK3hnmop(m(LygmC5)(fR((i*((L?>(fS+(l)l(jgnq(LygnsC6)(f+((5+(5,)fT+)fU((i!((RE((((d((Sd)yd)go(<?)(8+(((d((Td),)(d*E((8+(((d((Ud)E((8*(((d((Ld)?=(d*E(!8+(fK((i<(nmmmmmmmmmm" [.eP (some 12) 33 [.c (.str [112,40,88,41,32,105,102,32,113,40,88,41,32,97,110,100,32,116,114,117,101,40,88,41,46,32,113,40,97,41,46,32,113,40,98,41,46,32,114,32,105,102,32,112,40,97,41,46])],.bin 20 2 .eql (.t 19) (.c .fl),.eP (some 24) 34 [.c (.str [116,114,117,101,40,97,41])],.eP (some 30) 35 [.c (.str [112,40,88,41])],.eP (some 36) 35 [.c (.str [114])],.eP (some 44) 34 [.c (.str [112,40,97,41])],.lit 64 1 [.c (.str [112]),.c (.str [113]),.c (.str [114])],.eP (some 69) 34 [.c (.str [116,114,117,101,40,98,41])],.eP (some 75) 35 [.c (.str [114])],.lit 83 1 [.c (.str [113])]]
def Yq:List bo:=[.t 0]
def alp:=U "g70()hos(p(.++)/(+f5T*+`+5(l)l(j/5+6L(f6((l)l(j(6F((z)(8yf<((z(nmop)mmmq)10)f1((z(mmml>l=l;l:l8l7l4l0l*ljt" [.hV 2 (.c .fl)]
def Yn:=U "gA(A6M(f*((5*(5+)f>+)f=((l>k,((=F((z)(?yfE((z(nmop)mm(H6N((J6O((K6P(QygPS(fH((i0((HfM((fN!(z(nmmm" [.hV 2 (.c .fl),.build 40 [.bool false,.aS 3,.aS 3,.aS 1,.aS 2,.ha,.int .i64 0] [(0,1,.c (.bool true)),(1,1,.t 34),(2,1,.t 36),(3,1,.t 38),(5,1,.t 39)]]
def Yo:=aZ "yg*!(hg1(1,)(H(oUl*l)jyf1!*hnmop(m(4,)(!(hxrq(mxmmm" alp Yn [.hV 2 (.c .fl),.hV 2 (.c .fl)]
def Yr:List bo:=[.t 2,.t 3]
def alq:=U "g=0()hos(p(.)+)*()f8((l)l(j(;(9<T)((C>,(4,(,2,()(?<T)(<S.(7(i2)(K(DCU)(i*(op+mmq)19)f:((z(mmmlLlOl#lGlDl=l9l,t"
def YA:=U "gO(K(PB))(,`)(*i+(fO!(hnmm"
def Yv:=aZ "g+!(hg0(0?Q(7(l*l)jf/!5hnmop(mg4(3yf)(Yg65*(5+)f3+)f2((i,((2F((z)f6!5hnmop(myg;,)(!(hxrq(mxmmmmm" alq YA [.eP (some 14) 42 [.c (.aS 3),.t 13],.lit 19 1 [.c (.str [116,114,117,101]),.c (.str [100,111,101,115])]]
def Yx:=U "g*:);*!(hg0(0?Q(7(((e(/1*e)6V(e*7(=+(((e()6(e)*()e*6W(e+7(=,(i5)f:;*f9!5hnmop(m);(*()ygA((e()?(e)*()e*ygE=+(i/)(F>,(4,(,2,()9+G*<X)(fH+(fG!(i!(nmop.mgM(K)N(*()CY*(f,((5,(5!)fQ+)fR+(i.((K(Qb1Z)(H((((e((Ke)(Qe*C[)(e+H(t6=,(i1)(K(Q(RU$*)(fS((i+((SF((z)(SfO;*fP((z(nmop)mmop/m(K>,(4,(!2,()4+N(2+()ygk9+N*<X)(fO+(fP!(i0(nmmmmmm" [.bin 25 0 .eql (.t 24) (.c (.str [116,114,117,101])),.bin 29 0 .eql (.t 28) (.c (.str [100,111,101,115])),.look [1] 67 (.t 64) (.t 66) (.aS 2) false]
def Yy:List bo:=[.t 4,.t 5]
def alr:=U "g50()hos(p(()f2((z((7(3.*)(9+(*(:(7.*)(9+(*<^,(7(i1)f=3hnmop(mmq)14)f5((z(mmml>l=l8l4l)t"
def YB:=U "g+Ghnm"
def JI:=aZ "g+3hg!(!,)((.,)(#(*(i,)f.3hnmop(m(2,)(!(z*xrq(mxmmm" alr YB
def O7:=U "g*:)3!(hg/(/?Q(7(((e(/0*e)6`(e*7(=+(i/)f33f2!5hnmop(mg8(8/6*C6)(f+((5+(5,)f7+)f6((i!((7,)(H(((9f=()f<((i+(nmmmm"
def av1:=U "g5(0(5,)(0*(i+)os(p(mg;(:(7.,)()()*()b(0(d7(((e((Be)(?e*.,)(e+)(*e,/(*e!b(1(de.7(=/(((e((Ke)(Le*(#e+.,)(e,)()e!*()e.<2!(e/7(=0(iA)fO3hnmop(mq)fC(PfB1C)fP(BlClBjmmlOlHlDl(t"
def CB:=U "g+Ghnm"
def O8:=aZ "g+3hg!(!b(/(P7(((e((0e),)(e*H(4=+(i/)f13hnmop(mf0!(hxrq(mxmmm" av1 CB
def YI:=U "g*:)h)((*()z)g.E)(f)((z((/)!)*()C5*(i+(g4E/)f)((z((5)3*/(*C6*(i+(g:E5*f)((z((;)9*/(*C:*(i+(op!mp3mp9mq(mm"
def YJ:List bo:=[]
def YK:=U "g)!(h(*?Q(7(l*l)jf+!(hnmop(m(!B()(.*()f/((i+(nmmm"
def YL:List bo:=[.t 2]
def av9:=U "g4b,(5((z)os(v*p(b/*5((f4((l)l(j+5(5A)([1)*(f9+(i+(mq)mml<l:l8l5l.t"
def YM:=U "g<(9?a(l)l(j+;f=+(z(u<1)nmm"
def YN:=aZ "g);)hg,(,?Q(7(l*l)jf!;)hnmop(mf,;)h(/B()(!*()b*(i,)xrq(mxmmmm" av9 YM
def awa:=U "g50()hos(p(()f2((z((7(3.))(2+()(:(7.))(2+()#(,(i0)f<3hnmop(mmq)13)f4((z(mmml=l<l7l3l)t"
def YD:=U "g+Ghnm"
def YR:=aZ "g+3hg!(!,)((.,)(#(*(i,)f.3hnmop(m(2,)(!(z*xrq(mxmmm" awa YD
def awc:=U "gf(R(N,)(0*(((d((Nd)(Rd*.+)(d+9+(+d,9)Q+d!<b)(8.(i3)os,p(m(R1()fR((l)l(jq!mlMlSlWljl6l*lo!t"
def YT:=U "gnt(R(N,)(0*(((d((Nd)(Rd*.+)(d+9+(+d,9)Q+d!ygo,8.(i3)s+op(mfSKo@+h+S(N(Rb)+)(@+(o@+fS+(i,(+S/Q+A+(@*(o@+fS+(i+(+S(N(Rb@+)(@+(o@+fN+(i,(mmmm" [.ur 87 false [1,1,2] (.t 85) (.t 86)]
def YE:=U "gG(B1()fD((l)l(j"
def alv:=cn "g6(1(7(4.+)()(**(),)(0.(((d((?d)(<d*.+)(d+)((d,)((d!*()d.ygF8/(i8)os*p(mg#(#(F.+)(4+((4+((2+()(K(O.+)(4+(*2+()(P.+)(4+()4+((2+()(K(O.+)(4+(*2+()(P.+)(4+((2+()yfQb#a)+Qnci@ncgc)Q)*()yl)l(js+opnfmfR!(hxrq,xmmmmq+xmmlMlQlRlSlWlFlnflnrlo!t" awc YT YE [.bin 30 0 .neq (.t 29) (.c (.str [100,105,115,116,105,110,99,116])),.build 59 [.str [],.str [],.bool false] [(0,1,.t 39),(1,1,.t 49),(2,1,.t 58)],.bin 62 0 .eql (.t 61) (.c (.str [100,105,115,116,105,110,99,116]))]
def YF:=U "g4(01()f2((l)l(j"
def alw:=aZ "g0(,(1,)(0*(i+)os(p(mf/!(hxrq*mq)xmml2l/l.l!l,l(ljlnflnrlo!t" alv YF
def YG:=U "go;+NfM+(z(nm"
def O9:=aZ "g);+h;+h!(hxrq(mxmmm" alw YG
def awd:=U "g0()(1,)(0*(i+)os*p(mg6(6(0.+)()((*()(:M()(((e((9e)(?e*(9e+.+)(e,)((e!*()e.<B!(=/(((d((Bd)(Hd*(Bd+.+)(d,)()d!*()d.<B!(d/7(80(iA)(P(K(R.+)()()*()<c!(fP+(i.(fQGhmop/mq+fJ(Rf#1J)fR(#lJl#jmmlOlSlWl/t"
def awe:=cU "g/()hos(p(mf*3hf)!(hxrq*mmq)ml,l)l(lWlnPt" awd
def YV:=U "gW+PfO+(z(nm"
def YH:=aZ "g+;)h;)hGhxrq(mxmmm" awe YV
def alx:=U "g!(((.,)(0*(i+)os(p(mg3(3(/.))(*()(6M()(i!)f5Ghnmop(mq)f/(4f.1/)f4(.l/l.jmml5l0l(t"
def YP:=U "g+3hnm"
def YY:=aZ "g+3h!(hxrq(mxmm" alx YP
def alz:=U "g80()hos(p(()f2((z((3(:Z)(l*l)j(6f8((z(nmop)m(7)<)*()(9.*)(/(*(C(CL()WC+*(J1(fB((i2(mmq)19)f:((z(mmmlJlDlBl@l9l5t"
def ze:=U "gJ(CfE((z(nm"
def Y0:=aZ "g*:*g!!(hg0(.R()z)(11()f.((l)l(jnmop*mf!!)h)1)*(),)(!(l+l*jxrq(mxmmmm" alz ze
def Y2:=U "g*:*hg,/)*6E(f*((l)l(j*!)(+yg17(((d(/0*d)6F(d*b<(,8+(i0)*6)(4bQ))(l)l(j2,7)9+7*,))yg=[A*+(.*(*yyi!(mop0mmm" [.look [1] 9 (.t 7) (.t 8) (.bool false) false,.lit 21 2 [.c (.agg [.str [],.aS 2])],.lW true 2 (.t 23) (.t 19),.lW false 1 (.t 2) (.t 22)]
def awf:=U "g30()hos(p(()f1((z((2)5)*()(4.*)(/(*6E(yg=J/(f;((i0(mq)13)f4((z(mmml?l=l;l3t" [.bin 21 0 .add (.t 20) (.c (.str [44]))]
def Y4:=U "g?(<yf>(dl(ldjnm" [.bin 25 0 .add (.t 24) (.c (.str [41]))]
def Y5:=aZ ":(yhg,)+(*()yf+(Ri)Rg/).)*(),)(!(l+l*jxrq(mxmmm" awf Y4 [.hV 2 (.c (.str [])),.bin 7 0 .add (.t 6) (.c (.str [40]))]
def awh:=U "g00()hos(p(()f.((z((/)2)*()(1.*)(/(*6F(bA.(f7((i/(mq)12)f3((z(mmml;l9l7l2t"
def Y7:=U "g;(81()f;((l)l(jnm"
def Y8:=aZ ":(!(h!(hg,)+)*(),)(!(l+l*jxrq(mxmmm" awh Y7
def awi:=U "gT0()hos,p(()f#((z((M(J.*)(4,((2,())U(2*()#(*(((e((Me)(Xe*.*)(e+4,()e,2,()e!,)(e.)U)e/2*()e0,)(e1#(+(=2(i;)s!op(m(KB()((*()L()B,)((`)(*i.(gnr9)U*(M(X.*)(9,(*(S(W.))(2+()Wd0,(f2((52(53)fY+)fZ((i4((Zh+V(YA)(@*(nu)fV+(i+(op,m(KB()((*()R((((e((Ve),)(e*ygo9=+(i1)fQ;)fR3hnmop(mmmmmmq!1nT)fnT((z(mmmlQlRlTlXlYlZl_lnLlnPlnUlnjl7l)t" [.bin 100 0 .gtr (.t 99) (.c (.int .i64 5000))]
def Za:=U "go;1nO)fnO((z("
def alA:=aZ "gO0()hos*p(()fE((z((M,)(!(z*xrq,mmq+xmmmlQlRlTlHlGlFlEl@l0l,l)l(lnUlnjlo,lo:t" awi Za
def YQ:=U "go<(VfS+(z("
def YW:=U "go=1^)f^((z("
def alB:=cn "g;0()hos(p(()f4((z((<(5.+)()()/(*f8D*`*8(i,((A(:.+)()((*()((e()>(e)*()e*ygK=+(i1)s)op(mfAKnu)h(D,)(!(z*xrq*mxmmmmmq)xmmml#lHlFlElDlClBlAl@l;l+l)l(lnPlnSlnTlnUlnjlo,lo:t" alA YQ YW [.bin 35 0 .eql (.t 34) (.c (.str [100,105,115,116,105,110,99,116]))]
def Ze:=U "go>+SfQ+(fRGz(nm"
def Zb:=aZ "g!;)3hy+[z[g8(7,)(!(z*xrq(mxmmm" alB Ze [.nV 16 77 1 [.c (.aS 3)]]
def Zc:List bo:=[.t 6,.t 7]
def alC:=U "g70()hos(p(()f3((z((8(4.+)(4+((2+()4+<(2+()M(*(i/)(@(<.+)()()/(*`*B(fAGi,(nmop!mmq)17)f8((z(mmmlGlBlAl@l?l>l=l;l7l.lnNlnOlnPln]t"
def Zf:=U "gG/E*`*D(fC3z(nm"
def alD:=U "gO0()hos*p(()f#((z(gR)M)*()(S.*)(/(*(L<H)(f/((5/(50)fTD*`*T)fU((i1((U7(z)/M*`*O(fP3z(nmop)m)R)b7(A*/T*A*(@*(A*)R)bS()i!(mmmq+1=)f>((z(mmmlKlPlQlSlTlUlWlYlZl[ldl=l0t"
def Zj:=U "ge/R*`*O(fPGz(nm"
def Zk:=aZ "gH)F(*()b9*()(fDD*`*D(i*()#)*(),)(!(l+l*jxrq*mxmm" alD Zj
def sw:=cn "g):)g+D*3hg2/0*6e(z)(3,)(!(z*xrq(mxmop+mxmm" alC Zf Zk
def tG:List bo:=[.b 4 2,.t 5]
def OW:=U "g0(!?f(f!((l)l(j(!yz(g4+0f3+(z(nmop)m+1(3(2Cg)(A+(@,(e+f7+(i!(mmq)l;l9l6l/t" [.bin 12 0 .eql (.t 11) (.c (.str []))]
def tI:=cU "g);+hg!(!yg/S(f!((i*(f,Ke+hxrq(mmm" OW [.build 7 [.str [],.int .i64 0] [(0,1,.t 6)]]
def awj:=U "g/(,>,(4,()2,()(0>,(4,((2,(),((0!(i1)os(p(m+5(7(8?f(Ch*(A*(@!(A*f<+(i.((=Yi(T7(l*l)js(op(mmq)mlClAl2l(t"
def Zd:=U "gC+?fB+(z(nm"
def Zg:=aZ "g);*hg,(,yg.S(f,((i*(f+KA*hxrq(xmmmm" awj Zd [.build 6 [.str [],.int .i64 0] [(0,1,.t 5)]]
def kC:=U "g)D*hg+(+yg!S(f+((i*((+(,?f(Ch*(`*0(i+(nmmm" [.build 5 [.str [],.int .i64 0] [(0,1,.t 4)]]
def uW:List bo:=[.b 2 2]
def awl:=U "g80()hos(p(().*,*/(*f7D*f8(*`*7(i*(/7*(9E((<k*(f:((i+((:F((z)(<fA((z(nmop)mmmq)13)f4((z(mmmlDlBl@l?l>l=l9l3l*lklnKlnOlndt"
def Zi:=U "gD(A6l(,)(H(!i+)fF!3hnmop(m/G+6m(7(l*l)jf#!/hnmop(m)J()((*()yi*(gO)L()()*()b.*((/(*fRD*`*R(i,()L**(),)(H((((e()R)e)*()e*,)(e+H((=,(((e()R(e)*()e*6W(e+7(=,(i7)fM!0hnmop(mmop=mfM!(hnmmmm" [.bin 39 0 .eql (.t 38) (.c (.str [114,111,108,101]))]
def Zl:=aZ ":(!(hg/).**(),)(H(0i+)f1!*hnmop(m/2+6j(f2+(l)l(j(2,)(!(hxrq(mxmmmm" awl Zi
def awn:=U "g>0()hos*p(.++)/(+f8b#`+8(l)l(j(;)9)2*()bB)*((9)<+6no(J*(f>((i.((B)@(*()bB)*(((B0)(i!)(H)F(*()(GbP)+)(i+(fRGh(H(O,)(bO*(i+)fM;*fN!2hnmop(mmmop0mmmq+1@)fA((z(mmmlKlMlNlTlUlVlJlDl@l1l)lnXlnYlnZln[t"
def alE:=cU "g:(3hos(p(mf43h(6,)(!(hxrq*mmq)ml>l<l;l5l4l3l1l+l*l)l(lblnNlnVlnXlnYlnZln[t" awn
def alF:=U "gZ0()hos,p(.)+)*()fX((l)l(j+V(X(Q(XbB))((ygcA*(@.(oT*fV+(i/(mq!13)f4((z(mmmlKlMlNlOlPlRlTlUlXl^l_l`lalbl@l8l3t" [.build 59 [.str [],.int .i64 0] [(0,1,.t 55),(1,1,.t 58)]]
def Zn:=U "gf+VfM+(fN!(z(nm"
def Zu:=aZ "g2KoT*hgW(O,)(!(hxrq,mxmm" alF Zn
def Zo:=aZ "g);*!(hg5(56nn(f3+(l)l(j(76O(f4+(l)l(jQf4((z(f3Ghxrq(mxmmmmm" alE Zu
def alG:=U "gA0()hos*p(.++)/(+f<^*`+<(l)l(j4,>*b+,(g+)>(2*())@)9*(*A*(6np(b.*((9+(*ygOA+(@2(g+4,Q*bR,()i5(mq+19)f:((z(mmmlKlMlPlSlGl9t" [.build 39 [.bool false,.str [],.aS 2] [(0,1,.t 32),(1,2,.t 38)]]
def Zx:=U "gS+N/Q+A+(@*(e+fN+(i+("
def Zy:=U "gW1V)fV((z("
def alH:=cn "g30()hos(p(.++)/(+f1T*+`+1(l)l(j)1(/(*A*(6np(b.*((/(*yy`+6`i!`g=)8**(),)(!(z+xrq*mxmmmq)xmmmlAl?l<l;l9l5l*l)l(let" alG Zx Zy [.build 21 [.str [],.aS 2,.aS 3] [(0,2,.t 20)],.kc 6 [.str [],.aS 2,.aS 3]]
def Zz:=U "gX+NfM+(z(nm"
def Zq:=aZ "g);+hKe+hg0(0,)(!(hxrq(mxmmm" alH Zz
def alI:=U "g>0()hos*p(.++)/(+f:^*`+:(l)l(j):))((*()yi*(gE(B)A()((*())B))((*())E(*()yyi0nOop1mmq+gO19)f:((z(mmmlKlMl#lDl>l9l3t" [.bin 29 0 .neq (.t 28) (.c (.str [100,105,115,116,105,110,99,116])),.build 39 [.str [],.str [],.bool false] [(0,1,.t 33),(1,1,.t 36),(2,1,.t 38)],.qc [1,1,2] (.t 30) (.t 39) (.c (.bool true))]
def ZG:=U "gP1E)fF((z("
def alJ:=aZ "g30()hos(p(.++)/(+f1T*+`+1(l)l(j)1()((*()yi*(s)op]mg:)5**(),)(!(z+xrq*mmmq)xmmml>l<l9l7l2l,l*l)l(lblht" alI ZG [.bin 18 0 .eql (.t 17) (.c (.str [100,105,115,116,105,110,99,116]))]
def ZO:=U "gQ(N?nr(b2nq(nsfM+(i*(nm"
def Zr:=aZ "g);+hg/Qf!((z((0,)(!(hxrq(mxmmm" alJ ZO
def alK:=U "g10()hos(p(.++)/(+f/T*+`+/(l)l(j(1)0()((*()bQ)+(i+(mq)1/)f0((z(mmml9l7l4l/t"
def ZP:=U "g9(6yz((7?nt(f:+(l)l(jnmm" [.qd [1] none (.t 18) (.c (.str [100,105,115,116,105,110,99,116]))]
def Zt:=aZ "g);)hg!Qf+((z((.,)(!(hxrq(mxmmm" alK ZP
def Zv:=U "g)3h(*yg,((d((!d)B(d*)((d+*()8,(f0((i/(nmm" [.bin 4 2 .neq (.t 3) (.c .fl)]
def ZA:=U "g+3h(,(,<o*)(E((f,((i+(nmm"
def awq:=U "g20()hos(p(.*+)/(*f.D*`*.(l)l(j).(*()(6M()(i+)+4/3*A*(@*(A*f8+(i+(op,mmq)13)f4((z(mmml>l:l7l3l!t"
def ZC:=U "g>+9f;+(z(nm"
def Pd:=aZ "g+;*hKA*hg/(/,)(!(hxrq(mxmmm" awq ZC
def alL:=U "g1b,(5((z)os(v*p(b/*5((f1((l)l(j(5B()(**()(5<o,)((:<o+)(i/)(=B()(!*()(=yi,(op!mmq)mml>l7l!t" [.qd [1] none (.t 25) (.t 26)]
def ZE:=cU "g,(,B()(!*()b*(i,)xrq(m" alL
def ZH:=U ":(3h/)*yf)(Ol(lOjnmm" [.eP (some 4) 88 [.t 3,.c (.int .i64 4),.c (.bool true)]]
def Pe:=U "g)3h(*yyyyg/<o.,(((d((1d)yg38*(((d((5d)yg78*(((d((9d)yg;8*(f:((i9(nmm" [.build 4 [.int .u8 0,.int .u8 0] [(0,1,.c (.int .u8 97)),(1,1,.c (.int .u8 122))],.build 5 [.int .u8 0,.int .u8 0] [(0,1,.c (.int .u8 48)),(1,1,.c (.int .u8 57))],.build 6 [.int .u8 0,.int .u8 0] [(0,1,.c (.int .u8 45)),(1,1,.c (.int .u8 45))],.build 7 [.int .u8 0,.int .u8 0,.int .u8 0,.int .u8 0,.int .u8 0,.int .u8 0] [(0,2,.t 4),(2,2,.t 5),(4,2,.t 6)],.bin 11 0 .neq (.t 10) (.c (.str [105,102])),.bin 15 0 .neq (.t 14) (.c (.str [97,110,100])),.bin 19 0 .neq (.t 18) (.c (.str [110,111,116]))]
def awt:=U "g40()hos(p(.*+)/(*f0D*`*0(l)l(jg8/5*/2*yf*(^g;5+(5,)f5+)f4((l5k!((4h+9/8*A*(@*(A*f=+(i+(op,mmmq)16)f7((z(mmmlClBl?l<l:l6l!t" [.eP (some 19) 90 [.t 17,.t 18,.c (.aS 3)]]
def ZI:=U "gC(>6np(fA+(l)l(jnm"
def ZJ:=aZ "g*:);*hKA*hg1(1,)(!(hxrq(mxmmm" awt ZI
def alM:=U "gC0()hos(p(.)+)*()f=((l)l(j(@(><o+)(l*l)j+B(AA)(@*(1)fF+(i+(op,mmq)12)f3((z(mmmlLlJl#lElDlBl2l!lnRlnSlnTlnUln$t"
def alN:=U "gT0()hos*p(.++)/(+fWT*+`+W(l)l(j(R)W()((*()<o++(i,)+U/W+A+(@*(e+fU+(i+(op,mmq+14)f5((z(mmmlKlLlOlPlQlTlWlHlGlFlEl@l4l!t"
def ZS:=U "ga+R+UfO+)fP+(l)l(jnm"
def ZT:=aZ "g1Ke+hgN(KB()()*(),)(!(i!+xrq*mxmm" alN ZS
def ZL:=aZ "g+;);+hg4(4B()(**()(7<o,)((9A)(@*(1)f7+(i0(f6K1)h(=B()(+*(),)(!(i!+xrq(mxmmmm" alM ZT
def alO:=U "g40()hos(p(.)+)*()f0((l)l(jg8(8B()(!*()(5yf!(ag>5.(5/)f8+)f7((l8k0((77(z)(=1()f?((l)l(jop*mmmq)18)f9((z(mmmlDlAl>l<l8l+t" [.look [1] 22 (.t 20) (.t 21) (.aS 2) true]
def ZU:=U "gE(@fB((z(nm"
def Pf:=aZ "g+!(h!(hg1(0,)(!(hxrq(mxmmm" alO ZU
def alP:=U "g70()hos(p(.)+)*()f3((l)l(j(5(;B()(!*()(8ygA,)(J/(f>((i0(mq)14)f5((z(mmmlCl@l=l4t" [.look [1] 25 (.t 23) (.t 24) (.aS 2) false]
def ZX:=U "gD(?fA((z(nm"
def ZY:=aZ "g+!(hg/(/B()(,*(),)(f/((i,((3,)(!(hxrq(mxmmm" alP ZX
def alQ:=U "gK0()hos(p(.)+)*()fD((l)l(j(K>,(4,(!2,()(H(R(J<T)(bP),+(i/(mq)13)f4((z(mmmlLlMlQlSlUlBl3t"
def Z0:=U "g!!(hnm"
def Z1:=aZ "g!!(hg3(1(4B()(,*()<R,(f.((5.(5/)f4+)f3((i0((3F((z)(5f8((z(nmop)m(>>,(4,(.2,()(B(Bb1Z)(J+(>,/4,(.a,)(*i1((G,)(!(hxrq(mxmmmmm" alQ Z0
def ZQ:=U "g):):)3h)*(*())+(*()M(*(((d()0)d)*()d*)1)d+*()d,<8*(8!(f4((i3(nmm"
def ZV:=U ":(3h/)*yf)(Ol(lOjnmm" [.eP (some 4) 88 [.t 3,.c (.int .i64 4),.c (.bool false)]]
def Ph:=U "g):):)3h)*(*())+(*()#(*(i,))/(*())0(*()0*(f2((i,(nmop!m)4)*())5)*()#(*(i,))9)*()):)*()0*(f<((i,(nmop!m)>**()7(((d()A*d)*()8*(fC((i.(nmmmm"
def awA:=U "g.()(/,)(0*(((d((3d)(/d*.))(d+*()d,(6d!0)(8.(i3)os(p(m(51()f7((l)l(jq)ml8l6l*lkt"
def Z5:=U "g<(7(=,)(0*(((d((Ad)(=d*.))(d+*()d,(Dd!M()(8.(i3)(HfE+(z(nmop)mfCK1)h+C(J(Fb)))(@+(1)fH+(i,(+H(LA)(@*(1)fQ+(i+(+Q(K(Pb@))(@+(1)fO+(i,(nmmmmm"
def Pj:=aZ "g+;)h!(hxrq(xmmm" awA Z5
def awC:=U "g70()hos(p(()f1((z((7(2.+)(4+((2+()4+;(2+()M(*(i/)(?(@(;.+)(4+()9+(*9+C*<^)(fC+/fB((i/(nmop0mmq)1:)f;((z(mmmlJl#lDlClBlAl@l>l:l1lnalnit"
def Z9:=U "gJbCoF+(#@)(oF+4+J(2+()9+O*bE*()))*(A+(@!(oF+fQ+(fRGi0(nm"
def alR:=U "ga(U)N)*(),)(0+(((d((T8)(i/)os*p(mgl4+N)2+()(U.*)(9+(*4+O)2+()(U.*)(9+(*(MWd.)(f4((54(55)fM+)fT((i6(q+f8(Uf718)fU(7l8l7jmmlKlLlQlRlSlWlYlZl[ldlAl9t"
def Z3:=U "gnz(M(TfQ+)fR((l)l(jnm"
def Z6:=aZ "gS)N(*())O(*()#(*(((e()N)e)*()e*,)(e+)O)e,*()e!,)(e.#(+(=/(i5)fQ;+fR3hnmop(mfTGhfU!(hxrq*mxmmm" alR Z3
def aaa:=cn "g*:*:*g!;+3hg2//*6e(z)(2,)(!(z*xrq(mxmop+mxmm" awC Z9 Z6
def aad:=U ":(3h)))*(),)(E((((d().(d)*()d*yg28+(((d()3(d)*()d*b8((d+b=(i8,(((d()9(d)*()d*b8((d+b;(o/8,(f=((i<(nmm" [.bin 10 0 .neq (.t 9) (.c (.str []))]
def awE:=U "g1(1>,(4,()2,()(5>,(4,((2,(),((0!(((d((<d)>,(d*4,((d+2,()d,(@d!>,(d.4,()d/2,()d0N,(d1b?(Ud2((e((Ge)>,(e*4,((e+2,()e,(Ke!>,(e.4,()e/2,()e0N,(e1b=(Xe2((d((Kd)>,(d*4,((d+2,()d,(Kd!>,(d.4,()d/2,()d0N,(d1b;(ae=82(d#=>(dJ((e((Ke)>,(e*4,((e+2,()e,(Ke!>,(e.4,()e/2,()e0N,(e1b=(o6e2((d((Kd)>,(d*4,((d+2,()d,(Kd!>,(d.4,()d/2,()d0N,(d1b;(oOe=82(d_=>(d_((e((Ke)>,(e*4,((e+2,()e,(Ke!>,(e.4,()e/2,()e0N,(e1b=(ie2((d((Kd)>,(d*4,((d+2,()d,(Kd!>,(d.4,()d/2,()d0N,(d1b;(o/e=82(d_=>(8_(iU)os(p(m(KB()()*()1()B,)()`)(*i.(q)mlMl/t"
def aaf:=U "goC(K>,(4,((2,()(N(K>,(4,()2,()yfM(oMi0oMnm" [.qb 120 0 (.t 114) (some (.t 115)) (some (.t 119))]
def aag:=aZ "yhg+(+?o:(l)l(j(!B()()*()f.((i+(xrq(xmmmm" awE aaf [.hV 2 (.c (.str []))]
def alS:=U "g3(3>,(4,()2,()(7>,(4,((2,(),((0!(((d((>d)Yi(Vd*7(8+(i6)os(p(m(B?f(l)l(j(D?f(f@((l)l(j(@yf@(kl(lkjgH(Ah(#?f(fE((l)l(jop*m(Eyz(gM/H+`+J(z(nmop)m)#*b+*(g+(#(K(QCh)(ygUA+(@.(g+)P*bR*()i1(mmmmmq)mlLlQlRl>l7l3t" [.bin 32 0 .eql (.t 31) (.c (.str [110,111,116])),.bin 37 0 .eql (.t 36) (.c (.str [])),.build 45 [.bool false,.str [],.aS 2] [(0,1,.t 41),(1,2,.t 44)]]
def Z7:=U "gX/P+`+O(z(nm"
def aai:=aZ "g+T*+hg/(/(/Ch)(yf!T*+`+!Vi*Vxrq(xmmm" alS Z7 [.build 11 [.str [],.aS 2,.aS 3] [(0,2,.t 10)]]
def aaj:List bo:=[.b 4 3]
def awF:=U "g4(4>,(4,()2,()(8>,(4,((2,(),((0!(i1)os(p(m(>?f(f:((l)l(j);)b+*(A*(B(=Ch)(A*(@,(A*)B)bR*()i/((HYi(T7(l*l)js(op(mmmq)mlJlEl@l5l(t"
def aak:=U "gK(KYi(Ql)l(j/H*`*J(z(nmm"
def Pk:=aZ "g+D*hg.(!b9*()(f+D*`*+(l)l(j(0Yi(P7(l*l)j/.*`*0(z(nmop)mxrq(xmmmm" awF aak
def aal:List bo:=[.b 4 2]
def aan:=U "g+3h(,?o:(l)l(j(.>,(4,()2,()(2>,(4,((2,(),((0!(((d((9d)>,(d*4,((d+2,()d,(=d!>,(d.4,()d/2,()d0N,(d1(Ad2M()(83(i>)(EB()()*()1()B,)()`)(*i.(fHGhnmmop/mfH3hnmmmm"
def awH:=U "g40()hos(p(.++)/(+f2^*`+2(l)l(j+4)3)/(*A*(@+(A*f9+(i,(mq)10)f1((z(mmml=l<l;l8l0t"
def aac:=U "g=+:f<+(z(nm"
def aar:=aZ ":(;*hg!),(/(*bLA*(f!+(i*()/**(),)(!(z+xrq(mxmmm" awH aac
def Pl:=U "g):)g+!(hg.),(*()6W(7(((e(/1*e)6o;(=*(i/)f2!,hnmop(mg7)5(*()6o<(f+((5+(5,)y`,7)f6((i!(/:*6o=(((e((9e)((d()?)d)*()d*,)(d+)?)d,*()d!#(*(e08.(=1(i4)fE!!hnmop(m/G*6o>(H(,l*l)jfH!+hnmop(m(F((d((Ld)((d()P*d)*()d*7(d!8+(d.((e((Le)7(e*((d()P+d)*()d*7(e.8+(d6=/(87(i9)fO!.hnmop(mfO!(hnmmmmmmm" [.alloc 5 [.str [],.int .i64 0,.bool false,.bool false]]
def alT:=U "g90()hos*p(.)+)*()f5((l)l(j(56o@(((d((<d)(9d*<o+)(d+7(8,(i/)+A(>A)(@*(1)fE+(i+(op,mmq+17)f8((z(mmml#lGlDlBl>l7l!t"
def aam:=U "g#1?)f@((z("
def alU:=aZ "g20()hos(p(.*+)/(*f0D*`*0(l)l(j/0*yg7,)(!(z+xrq*mmq)xmmml9l7l4l2l.l*l)l(l]lgt" alT aam [.eP (some 15) 106 [.c (.aS 1),.t 14]]
def aap:=U "gJ+Gf#+(z(nm"
def aau:=aZ "g);)hK1)hg/(/,)(!(hxrq(mxmmm" alU aap
def alV:=U "g80()hos(p(.++)/(+f5^*`+5(l)l(j)5(*()((e()8)e))((e**()e+ygB=,(i/)+@)>)/(*A*(@+(A*fE+(i,(+D)C)/(*A*(@+(A*f#+(i,(p2mmq)1=)f>((z(mmmlKlLlMlHlGlEl=l3lnRlnSlnTlnUln[t" [.bin 26 0 .eql (.t 25) (.c (.str [100,105,115,116,105,110,99,116]))]
def alW:=U "gT0()hos*p(.)+)*()fT((l)l(j(R(T<o+)(7(i+)fM3hnmop(mmq+1/)f0((z(mmmlKlLlMlNlOlQlTlYlZl[l$lAl/l)t"
def aaq:=U "g)Ghnm"
def aaA:=aZ "gN(J6l(f#+(l)l(j(N6l(,)(!(z+xrq*mxmm" alW aaq
def aaw:=aZ ":(3hg1)0(/(*bLA*(f1+(i*(f0KA*h)3**(),)(!(z+xrq(mxmmmm" alV aaA
def alX:=U "g>0()hos*p(.++)/(+f:^*`+:(l)l(j(>);))((*()bQ)+(i+(mq+1/)f0((z(mmmlFlDlAl?l:l/t"
def aaB:=U "gF1;)f<((z("
def al1:=aZ "g30()hos(p(.++)/(+f1T*+`+1(l)l(j(3)2()((*()bQ)+(i+()5**(),)(!(z+xrq*mmmq)xmmml>l<l9l7l2l*l)l(lbt" alX aaB
def aaF:=U "gG(Dyz((E?nt(fH+(l)l(jnmm" [.qd [1] none (.t 32) (.c (.str [100,105,115,116,105,110,99,116]))]
def aay:=aZ "g);)hg/Qf!((z((0,)(!(hxrq(mxmmm" al1 aaF
def aaC:=U ":(!(h))**()z)f*!)hnmop(mf*!(hnmmm"
def al2:=U "g00()hos(p(.*+)/(*f.D*`*.(l)l(j+0)/(2*())1)2*()6np(b:*()+))(A*(@/(A*f9+(i0(mq)14)f5((z(mmml=l;l8l4t"
def aaG:=U "g=+:f<+(z(nm"
def uX:=aZ "g);*hKA*hg!(!,)(!(hxrq(mxmmm" al2 aaG
def aaE:=U "g+;+hg!(!?oA(f*+(l)l(j(*(/CoB)(i*(+!f/+(z(u.o@+nmmmm"
def kD:=U "S(yhg*b6oC)f)((z(nmm" [.hV 2 (.c .k4)]
def JJ:=U "g);)h(*?oG(?oF(f++(i*(nmm"
def awS:=U "g30()hos(p(.++)/(+f2T*+`+2(l)l(j/2+6L(f3((l)l(j(3F((z)(5f9((z(nmop)mmmq)10)f1((z(mmml<l:l8l7l4l0l*t"
def aaQ:=U "g)!(hnm"
def aaR:=aZ "g)!(hg!(!,)(H(oUl*l)jf.!*hnmop(m(0,)(!(hxrq(mxmmm" awS aaQ
def awT:=U "g?0()hos(p(.*+)/(*y`*:(l)l(j(<);)*()bA*(f@((i+(mq)1/)f0((z(mmmlElDlBl?l>l=l<l;l4l/lnKlnLlnMlnNlnXt" [.alloc 8 [.str [],.int .i64 0]]
def al3:=U "gM0()hos*p(().+,*/(+fFT*+fG(*`+F(i*((O)G()((*()<oH+(fJ((i,((Jb>((z)(T(W(T(W.))(b7(+)(UA)(@*(+).)0/bS()i1(op2mmmq+1=)f>((z(mmmlKlMlNlPlQlSlUlVlWl^l`lalblcl=l3t"
def aaH:=U "gc+TfM+(fN!(z(uToe)nm"
def aaI:=aZ "gG(A1()yf@+mi)mgJ(J,)(!(hxrq*mxmm" al3 aaH [.s5 34 144 [.aS 1] (.t 33)]
def aaU:=aZ "g);)!(hg5(56M(f*((5*(5+)f5+)f4((i,((4F((z)(6f:;)f9((z(nmop)mf6Vh(8,)(!(hxrq(mxmmmmm" awT aaI
def aaV:=U "g)3h(*,)(H(t6l*l)jf+3hnmop(m(!b2o#(oJ7(f.((i*(nmmm"
def aaW:=U "yhQQyg+S(f,((i+(nmm" [.hV 0 (.c .fl),.build 3 [.ha,.ha] [(0,1,.t 1),(1,1,.t 2)]]
def Pn:=U "g*:)3hg//,*6oK(f,((l)l(jg2(2B()((*()(1b!))(*f.((5.(5/)f4D*`*4)f3((l4k0((3hf73hnmop(mm(;>,(4,((2,()(:9+=*bP)*)(i!((A>,(4,()2,()4+B(2+()(G>,(4,()2,()4+H(2+()ygN9+N*A*(@*(A*yi7(fOGhnmmmmmm" [.iN [1] 38 (.t 35) (.t 37) (.list (some 25) 2 []),.q5 [1] (.t 29) (.t 31) 41]
def al8:=U "g<b,(5((z)os*v*p(b/*5()f8D*`*8(l)l(j)>(*()/:*Cny)(i+(mq+mmlDl@l?l>l<l5l2l.lnKt"
def aaJ:=U "gD)B(*()B()((*(),*(H(t6i.)fG!3hnmop(m"
def al9:=aZ "g1//)(1CoL)(f+((5+(5,)f1()f0((i!((0hf3!+hnmop(m(2,*(E((l*l)jf6!(hnmop(m(5b*(z)xrq*mxmmmmq)l<l8l7l6l4l!l*l(lalnKt" al8 aaJ
def aaY:=cU "g)bF)g+!(hxrq(m" al9
def awV:=U "g30()hos(p(().*,*/(*f2D*f3(*`*2(i*((4(4)4(2*())6)2*()6o((b:*()+))(.*/.a,*()i0(mq)15)f6((z(mmmlAl?l=l<l5t"
def aa0:=U "gA+>f@+(z(u?A*nm"
def Po:=aZ "g);*hg!(!,)(yf,+Si)Sg0(0,)(!(hxrq(mxmmm" awV aa0 [.s5 8 25 [.str [],.aS 2] (.t 7)]
def amc:=U "g8b,(5((z)os(v*p(b/*5()f7D*`*7(l)l(j+9/8*A*(@*(A*f=+(i+(mq)mml@l>l;l.t"
def aaK:=U "g@(=6oM(f@+(l)l(jnm"
def aa3:=aZ "g);*hg!(!B()((*(),*(bJ(A*f0+(i!((3B()((*()b*(i,)xrq(mxmmm" amc aaK
def awX:=U "g.()(/,)(0*(((d((.d)(3d*,)(d+0*(8,(i1)os(p(mg:(:(6.*)(9+(*(=(:.*)(9+(*<oN,(f=((i0((=F((z)(?fB((z(nmop)mmq)f5(Af415)fA(4l5l4jmmlBl@l6l)t"
def aa5:=U "gF(F,)((G,)(<oO*(fG((i,(nm"
def aa6:=aZ "g+!(h!(hxrq(mxmm" awX aa5
def aa9:=U "g+3h(,(,<oP)(b>((f,((i+(nmm"
def abc:=U "g+;)h(,?oR((!CoQ)(?nt(f!+(i,(nmm"
def amd:=U "gP0()hos(p(.*+)/(*fSD*`*S(l)l(j/S*(LL()(MWo!+)(7(i!)fQ3hnmop(mmq)11)f2((z(mmmlKlQlSlJlFl1l)t"
def aaL:=U "gZ)N(*()6W(fQ((i*(nm"
def wP:=aZ "g*:*g!3hg0(/R()((e()0)e)*()e*,)(e+H(,=,(i/)f23hnmop(m)5)*(),)(E((i+))9(*()6W(((e()=(e)*()e*6oS(=+(((e((Ce)((d()D(d)*()d*6o@(e!8+(=.(fF((i7(nmop8m)#)*(),)(!(z+xrq(mxmmmm" amd aaL
def aw0:=U "g<(7(=,((0*(i+)os(p(mgB(B(>N)(ygF<oT)(7(i!)fD3hnmop(mq)f/(Cf.1/)fC(.l/l.jmmlGlDl4l0l(t" [.q4 30 (.t 3) 3 2 none none]
def abf:=U "g+Ghnm"
def CF:=aZ "g*:)3hg!(!,((R()((e((1e),((e*H(8=+(((e((6e)b8((e*ye*g9<oT)(e,7(=!(i6)f83hnmop(mf7!(hxrq(mxmmm" aw0 abf [.q4 17 (.t 3) 3 2 none (some (.c (.int .i64 1)))]
def abh:=U "g*:*:*g!;+3hg1/!*6`(7(((e((3e)6oU(e*7(=+(i/)f3;+f23hnmop(mg:/7*/7*(:WoV*)(f,((5,(5!)f8+)f7((i.((77(((e((;e)6oU(e*7(=+(i.)fA;+f@3hnmop(m(?6oW(fC+(fBGl)l(jnmmmmm"
def ame:=U "g)()>,(4,()2,()(!>,(4,((2,(),((0!(((d((4d)>,(d*4,((d+2,()d,(8d!>,(d.4,()d/2,()d0N,(d1b?(Hd2((e((?e)>,(e*4,((e+2,()e,(Ce!>,(e.4,()e/2,()e0N,(e1b?(2d==2(8>(i#)os(p(m(KB()()*()1()B,)()`)(*i.(q)ml/t"
def Pr:=cU "xrq(" ame
def abC:=U ":(3hg,)+)*(),)(E((i+)g1)0(*()6ok(f+((5+(5,)f3()f2((l3k!((27(((d()8(d)*()d*6W(d+7(8,(((d()>(d)*()d*6o@(d+7(8,(fB((i5(nmmop<m)C(*()6W(7(((e()H)e)*()e*b2o#(o;=+(fM((i0(nmmm"
def Ps:=U ":(yg*3hyg!b6om,Col)(f+((i*((+R((z)y`,/Uf.3zUnmop(mg2(.yg4/(,`,3(f2Gi*(nmmmm" [.alloc 2 [.str [],.int .i64 0,.bool false,.bool false],.q4 5 (.g 0) 10 4 none none,.build 10 [.str [],.int .i64 0,.bool false,.bool false] [],.oJ 12 (.g 0) 10 4 (.t 11)]
def abE:List bo:=[.b 2 4,.t 3]
def Pt:=U ":(3h)))*(),)(H(,((e().)e)*()e*b2o#(o==+(f1((i0(nmm"
def aw9:=U "g10()hos(p(.*+)/(*f/D*`*/(l)l(j(1/0*6o>(bA*(f5((i+(mq)1/)f0((z(mmml9l8l7l4l/t"
def abG:=U "g9(61()f9((l)l(jnm"
def abH:=aZ ":(!(h!(hg!),)*(),)(!(z+xrq(mxmmm" aw9 abG
def axa:=U "g;0()hos(p(.*+)/(*f8D*`*8(l)l(j+>/9*yf@+di)dmq)gA1.)f/((z(mmmlAl?l>l<l8l.t" [.lX (some 25) 106 23 [.t 24]]
def abI:=U "gB+Bf?+(z(nm"
def abJ:=aZ "g*:);)hg.)+)*(),)(E((i+)+2)0(*()A)(@+(1)f3+(i,(nmop!m)4)*(),)(!(z+xrq(mxmmm" axa abI
def abL:=U "g)3h(*yyyyg/<o.,(f.((i!(nmm" [.build 4 [.int .u8 0,.int .u8 0] [(0,1,.c (.int .u8 65)),(1,1,.c (.int .u8 90))],.build 5 [.int .u8 0,.int .u8 0] [(0,1,.c (.int .u8 97)),(1,1,.c (.int .u8 122))],.build 6 [.int .u8 0,.int .u8 0] [(0,1,.c (.int .u8 48)),(1,1,.c (.int .u8 57))],.build 7 [.int .u8 0,.int .u8 0,.int .u8 0,.int .u8 0,.int .u8 0,.int .u8 0] [(0,2,.t 4),(2,2,.t 5),(4,2,.t 6)]]
def abP:=U "g);+h(*bNon+(f*+(l)l(jnmm"
def ab6:=U "g);)hg+(+?oq(f*+(l)l(j(*?a(l)l(j+,f.+(z(u!1)nmmmm"
def ab8:=U "S(yhg*b6or)f)((z(nmm" [.hV 2 (.c .k4)]
def acb:=U "g*:)!(hg!(!b6ot+Cos)(f+((i*((+R((z)f.Vhnmop(m(2(..*)()()*()f3((i,(nmmmm"
def ace:=U "g+3h(,(,Cou)(b>((f,((i+(nmm"
def acg:=U ":(3hg,)+(*()yg/((d()/)d)*()d*,)(d+E()8,(f2((i0()4(*()yg8((d()8)d)*()d*,)(d+E(*8,(f:((i0((;7(((d((=d)7(8*(((e(/D*e)6`(e*7(=+(fG((i2(nmmmm" [.bin 7 0 .eql (.t 6) (.c (.str [116,114,117,101])),.bin 16 0 .eql (.t 15) (.c (.str [100,111,101,115]))]
def yr:=U ":(yhyhg+/**Cov)(l)l(j?ow*f,((z(nmmmm" [.hV 2 (.c (.str [])),.vy 3 217 [.fl,.aS 1]]
def O5:=U "g80()hos(p(.++)/(+f2T*+`+2(l)l(j/9)/3+bKoy67Uox*)(i+(mq)1/)f0((z(mmml@l?l<l;l7l6l4l/lelglnQt"
def amf:=U "gBb,(5((z)os*v*p(b/*5((f<((l)l(jgG)E(*()B()((*()(Bb!))(*f/((5/(50)fED*`*E)fD((lEk1((Dh*Q)(Hyl)l(jop*mmmq+mmlKlLlOlPlJl#lGlElDlClBl7l*t" [.qd [1] none (.t 42) (.t 43)]
def yv:=U "gS2,Q)2,R)fO()fP((l)l(jnm"
def aaM:=aZ "g@*:)b*(z)xrq*mxm" amf yv
def Ah:=aZ "g)bF)yg,3hg4Qyy`)/(yz((4,)(!(hxrq(mxmmm" O5 aaM [.hV 4 (.c .ha),.kc 6 [.ha],.kc 7 [.bool false],.st 1 (.t 7) (.c (.bool false))]
def T9:=U "g50()hos(p(().*,*/(*f3D*f4(*`*3(i*((4E((((e((9e)(8e*L()e+.**(e,9+(*e!9);*e.<oN)(e/F((=0(i3)+A/@*6p)(A*(@+(A*fF+(i,(op!mmq)1=)f>((z(mmmlKl#lFlEl=l.t"
def Aj:=U "gK+GfJ+(z(nm"
def Cr:=aZ "g);*hg.(.?oz(f!+(l)l(j(!b2p((oNl)l(jf.KA*hu/A*(/,)(!(hxrq(mxmmmmm" T9 Aj
def aci:=U "g):):)!(hg.9+,*6p*(9+!*6p*(yya),!*a),,(i+(g3/.,/.,yf*(Yi)Yg6)4)*())5)*()<o**(f7((i,(nmg<)7(*())8(*()#(*(f!((i,()<(*())=(*()<oO*(fB((i,(nmgG)B)*())C)*()#(*(f!((i,()G)*())H)*()<oO*(fO((i,(nmgR)P**())Q**()#(*(f!((i,()P**())Q**()<oO*(fO((i,(nmop2mp=mpHmpVmq()P+*())Q+*()<p+*(fO((i,(nmmmm" [.alloc 5 [.int .i64 0,.int .i64 0,.int .i64 0,.str []],.alloc 6 [.int .i64 0,.int .i64 0,.int .i64 0,.str []],.ur 14 false [0,0,0,1] (.t 12) (.t 13)]
def acj:=U "g+!(h(,(,0)(l*l)jf+Vhnmop(m(/(/Z)(l*l)jf.!)hnmop(mf.!(hnmmmm"
def amn:=U "g00()hos(p(()f!((z((1(3(/.))(*()M(,(i!)(3f5((z(nmop)mmq)11)f2((z(mmml6l5l1l*t"
def aaN:=U "g+Vhnm"
def ack:=aZ "g+!(hg!(!,)(!(z*xrq(mxmm" amn aaN
def amo:=U "g4(.,)(H((l*l)jos(p(m(1(2,)(L().)+(*()f6((i!((7(8,)(L()b))+(f<+(i,((=(<ygE7(i+)(A(@bQ))(l)l(j+B(#(CygL[1)+(fG+(i,(mop/mmmq)mlLl#lFl>l/t" [.look [1] 29 (.t 27) (.t 28) (.bool false) false,.look [1] 36 (.t 34) (.t 35) (.aS 1) false]
def aaO:=U "gM(HfJ((z(nm"
def acm:=aZ "yhg/Qf+((z((0(0yg3?p,(f.+(i+(xrq(xmmmm" amo aaO [.hV 4 (.c .ha),.look [1] 11 (.t 9) (.t 10) (.aS 1) false]
def axl:=U "g10()hos(p(.++)/(+f/b#`+/(l)l(j(1)0(2*()(4)3(2*()yg;)6)2*()A)(@+(1)yi2(mq)16)f7((z(mmml@l>l;l6t" [.iN [1] 19 (.t 16) (.t 18) (.list (some 9) 1 []),.q5 [1] (.t 13) (.t 15) 23]
def Pv:=U "g@(=f?((z(nm"
def acn:=aZ "yhg!Qf+((z((.,)(!(hxrq(mxmmm" axl Pv [.hV 2 (.c .ha)]
def aco:=U "g)3hg!(!6ok(f*((5*(5+)f.()f!((l.k,((!f0((z(nmmm"
def axm:=U "g10()hos(p(.*+)/(*y`*.(l)l(j(4)/(*()bO*(((d((9d))4)d**()d+b4*(8,(i1)f:Ghnmop(mmq)15)f6((z(mmml>l;l9l5l)t" [.alloc 6 [.int .u8 0,.int .u8 0]]
def acq:=U "g+3hnm"
def JO:=aZ "g+3hg.(!,)(!(hxrq(mxmm" axm acq
def amp:=U "g20()hos(p(().+,*/(+yf3(*`+2(i*()2(2*()6o@(7(((e()7)e)9*(*e*6V(e+7(=,(((e((>e)H((e*((d()@(d)2*()d*(Fd+(Dd,L()d!.+*(d.4+((d/2+()d0b4.(e481(=5(i@)fM3hnmop(mmq)1E)fF((z(mmmlMlNlOl#lEl)t" [.alloc 4 [.str [],.str [],.aS 2]]
def aaT:=U "g)Ghnm"
def acs:=aZ "g)3hg,(,,)(H(hl*l)jf!3hnmop(m(/,)(!(hxrq(mxmmm" amp aaT
def axn:=U "g$0()hos(p(()fV((z(g_4+N)2+()(V.*)(9+(*4+O)2+()(V.*)(9+(*(MWoV.)(f4((54(55)fM+)fU((i6((U7(z)fQ;+fR3hnmop(mmmq)1;)f<((z(mmmlKlLlQlRlSlTlUlVlXl`l@l;l)t"
def acv:=U "gnp(MfQ+(fRGz(nm"
def acw:=aZ "g*:*:*g!;+3hg3/0*6p!(z)g6(4)4(*()<p.*(f,((5,(5!)f4()f3((i.((3h(;(<(7.+)(4+()9+(*9+?*<p/)(f?+/f>((i/(nmop0mm(C)C(*()/D*Wp0+)(fD+(fCGi,(nmmop=m)G(*())H(*()#(*(((e()N)e)*()e*,)(e+)O)e,*()e!,)(e.#(+(=/(i5)fQ;+fR3hnmop(mfUGh)N)*(),)(!(l+l*jxrq(mxmmmmm" axn acv
def axo:=U "g00()hos(p(.++)/(+y`+.(l)l(j+0)/(2*())1)9*(*6p1(bE*()+)*(A+(@/(p>+f9+(i0(mq)14)f5((z(mmml=l;l8l4t" [.alloc 5 [.str [],.str [],.aS 2]]
def acy:=U "g=+:f<+(z(nm"
def acz:=aZ "g);+hKp>+hg!(!,)(!(hxrq(mxmmm" axo acy
end AM
