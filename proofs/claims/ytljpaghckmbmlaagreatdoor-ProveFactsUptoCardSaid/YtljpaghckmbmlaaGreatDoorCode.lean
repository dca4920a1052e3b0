/- The program's functions as code of the abstract machine. Conditions: none; definitions alone. -/
import Derived.Test.YtljpaghckmbmlaaGreatDoorAm4
import Derived.Test.YtljpaghckmbmlaaGreatDoorAm5
set_option maxRecDepth 100000
namespace AM
open Go
def kB:=U "g+3hg0(0(0<.)(:(i+)bO/f1((z(nmop)mg6(6(6<0)(f+((5+(5,)f6!)f5((i!(g<(<(<<1)(f+((5+(5,)f:!)f9((i!((<(;<2)(((d((?d)(>d*M()(7+(((d(bO/7)(fH((i2(nmmmmm"
def qN:List bo:=[.t 4]
def JG:=U "g+3h(,b::(P((d((.d)b:;(d7*(((d((3d)(3d*<<)(7+(f3((i2(nmm"
def Yj:=U "f(3hy!ZzZg8(7yg:<0)(f+((5+(5,)f;!)f:((i!(g>(=yg@(?T+((6+((8+(*P6!,(f/((5/(50)fC!)fB((i1(yg#bF3(*f*((5*(5+)fF!)fE((i,(gM(L(LT+())((/(*yf!(nSgS5.(5/)fS()fT((i0(gV(LygX<0)(f+((5+(5,)fU!)fV((lUk!(yg]bF0(*f*((5*(5+)fW!)fX((lWk,(yyygcP?*)(fY!(i+((NC((((d((Md)yd)gi<2)(7+(((d((Pd)C((7*(((d((Od)(Md*yd*gns<2*(7,(((d((Rd)C((7*(((d((Qd)yd)go)<2)(7+(((d((S7)(((d((Td)C((7*(((d((Vd)C(57*(((d((Xd)C(+7*(((d((Yd)yd)go=<2)(7+(fK((ine(nmmmmmmmmmm" [.eP (some 15) 21 [.c (.str [112,40,88,41,32,105,102,32,116,114,117,101,40,88,41,32,97,110,100,32,110,111,116,32,113,40,88,41,46,32,113,40,97,41,46])],.eP (some 18) 22 [.c (.str [116,114,117,101,40,98,41,44,32,116,114,117,101,40,97,41])],.eP (some 24) 22 [.c (.str [116,114,117,101,40,97,41,44,32,116,114,117,101,40,98,41])],.eP (some 33) 21 [.c (.str [112,32,105,102,32,110,111,116,32,113,46])],.eP (some 43) 16 [.t 38,.c (.aS 2),.t 42],.eP (some 48) 22 [.c (.str [113,40,98,41])],.eP (some 53) 21 [.c (.str [110,40,102,40,88,41,41,32,105,102,32,110,40,88,41,46,32,110,40,97,41,46])],.eP (some 57) 22 [.c (.str [99])],.eP (some 58) 22 [.c (.str [109,44,32,110])],.eP (some 59) 22 [.c (.str [120])],.eP (some 65) 22 [.c (.str [112,40,98,41,44,32,113,40,97,41,44,32,116,114,117,101,40,97,41,44,32,116,114,117,101,40,98,41])],.qb 75 2 (.t 74) none (some (.c (.int .i64 1))),.eP (some 84) 22 [.c (.str [112])],.eP (some 104) 22 [.c (.str [116,114,117,101,40,99,41,44,32,100,111,101,115,40,120,44,32,109,41])]]
def Yk:List bo:=[.t 0]
def LD:=U "gM(@(F(E.))(*(),)(0!(i.)os,p(mgV!J(K(S(U.))(*()(X.))(*().+/(/(+(R<L)(>4(G*fW!(i5(q!f7(Xf627)fX(6l7l6jmmlLlOlPlQlVlYlZl^lblBl?l8lnlt"
def rB:=U "ge(R(W<M)(f+((5+(5,)fY!)fZ((i!((Z#((z)(ZfO;*fP((z(nmop)m(Y,)((R,)(S*(fV((i,((YfR!(z(mmm"
def OU:=aZ "gL(Ahos*p(mfAGG*hf@+(hxrq,mxmmq+mlLl#lHlGlAl@l?l>l:l6l+l(lnTlnlt" LD rB
def rC:=U "gJ(@2()fB((l)l(j"
def OV:=aZ "gF(<(?,)(0*(i+)os(p(mf?Bhxrq*mq)xmml#lFlElDl?l>l=l<l;l7l3l(lnMlnTlnlt" OU rC
def rD:=U "gns!RfO!(fP+(z(nm"
def rE:=aZ "g+;*+(hg7(71H(f3((l)l(j(3#((z)(5f8;*f7((z(nmop)mm(;1#(:(l*l)jf;;*f:+5hnmop(m(>1J(f:!(l)l(jgB(B1K(f*((5*(5+)f>!)f=((l=k,(f<+(hxrq(mxmmmmmm" OV rD
def rF:List bo:=[.t 4,.t 5]
def avU:=U "g50()hos(p(()f2((z((7(3.*)(8+(*(:(7.*)(8+(*<N,(:(i1)f=3hnmop(mmq)24)f5((z(mmml>l=l8l4l)t"
def Yl:=U "g+Bhnm"
def Ym:=aZ "g+3hg!(!,)((.,)(H(*(i,)f.3hnmop(m(2,)(+(z*xrq(mxmmm" avU Yl
def avV:=U "gB0()hos(p(.*+)/(*f<@*`*<(l)l(j/<*1O(:(((e(/@*e)1P(e*:(=+(i/)f#;*fH+5hnmop(m)F(*()/F*FD)(i+(mmq)27)f8((z(mmmlLlOlPlQl#lHlGlElAl=l7l!lnTlnUlnVlnWln_lnet"
def avW:=U "gV0()hos*p(.++)/(+fX]*+`+X(l)l(j/R)/X+b@RVUZQ*)(i+(mq+2/)f0((z(mmmlKlLlOlPlQlTlXl$l#lFlElDlCl9l/ln_lnet"
def Yn:=U "g^*V)hfO;*fP++hnmop(m*U)E()((*(),*(D(t6i!)fO;*fP+3hnmop(m*U)LG(1F(fO!(fP+(i*(nmmm"
def Yo:=aZ "gRbGCyy`)#(bX)Hz((K,)(+(hxrq*mxmm" avW Yn [.kc 10 [.fl],.kc 11 [.bool false]]
def Yp:=aZ "g+;*+(hg5(51@(f1((l)l(j(1#((z)(3f6;*f5((z(nmop)mm(9,)(D(t6l*l)jf9;*f8+5hnmop(mbGCyy`)7bl(lbjg?(>,)(+(hxrq(mxmmmmm" avV Yo [.build 23 [.fl] [(0,1,.t 22)],.alloc 7 [.fl]]
def Yv:=U "g)9)g+3h/**(,(!PW*)((/b!)(f.((i!(nmm"
def Yx:=U "g,9*;*+(hg1/,*1O(:(l*l)jf.;*f!+5hnmop(mg5(5(5F0)(f+((5+(5,)f2!)f1((i!((1#((z)(3f7;*f6((z(nmop)m(5b2Y9FX)(f:!(f9+(i*(nu:G*mmmmm"
def Yy:List bo:=[.t 6,.t 7]
def JI:=U "g,9*3+(hg1/,*1O(:(((e(/0*e)1P(e*:(=+(i/)f33f2+5hnmop(mg:(:(:<0)(f+((5+(5,)f7!)f6((i!((6#((z)(8f<3f;((z(nmop)m(:/>*<])(b=((f@((f?+(i+(nmmmmm"
def avZ:=U "gN0()hos*p(()fJ((z((K(P.+)()(**()(Q.+)()()/(*b:5(<:(i2)fO3hnmop(mmq+25)f6((z(mmmlLlOlQlUlYl=l5l)t"
def YA:=U "g$2X)fX((z("
def av0:=aZ "g50()hos(p(()f2((z((7(3.+)()((/(*b:5(<:(((e((?e)(;e*.+)(e+)(*e,*()e!,)(e.D(0=/(i7)fC3hnmop(m(G(C.+)()(**(),)(+(i.*xrq*mmmq)xmmmlLlJl#lHlDl@l/l)l(lnOln[t" avZ YA
def YB:=U "g](KbF<(*fO((l)l(jnm"
def O7:=aZ "g+3hg.(.,)((/S)(i+)f.3hnmop(m(2,)(+(z*xrq(mxmmm" av0 YB
def av1:=U "g40()hos(p(()f1((z((6(2.*)(/(*(9<5)(:(i.)f93hnmop(mmq)21)f2((z(mmml:l9l5l1l)t"
def CB:=U "g+Bhnm"
def O8:=aZ "g+3hg!(!,)((.S)(i+)f!3hnmop(m(1,)(+(z*xrq(mxmmm" av1 CB
def av2:=U "gC0()hos(p(()f<((z((=(E(>.*)(/(*Y,(i!(mq)20)f1((z(mmmlHlFlClBlAl@l?l>l=l<l;l:l9l8l0lnUln$ln]ln^lnllnnlnolnplo,lo4lo5lo6lo8loYlotloulovt"
def av3:=U "gno0()hos.p(()f[((z(gnr(K(X.+)(6+((8+(*(Y([.))(4+()<c,(f2((52(53)f$@*a)*$)f]((i4((]h!W/$*?*(>*(G*fW!(i+(op,mmmq/2<)f=((z(mmmlLlOlQlTlZl[l$l]l^l_lelflglnUln^l@l<l!lo4lo5lo6lo8loYlotloulovt"
def YD:=U "go12n])fn]((z("
def av4:=aZ "g]0()hos,p(()fX((z(g`(P(K(X.+)()(**()(VZb.)(f0((50(51)fY!)fZ((i2((Z:(z)fO3hnmop(m(Y,)(+(z*xrq.mmmmq!xmmmlLlOlQlTlXlYlZl[l$l]l^l_lelflglBl9l+l)l(lnplo,lo4lo5lo6lo8loYlotloulovt" av3 YD
def av5:=U "go50()hos0p(()f^((z(go8(V(^.*)()()*(),)(C()((d((Vd)(^d*.*)(d+)((d,*()d!yd!goF((e((Ve)(^e*.*)(e+)((e,*()e!yd4goM=.(76(f?((i>(!W(V(^.*)()()*()ygoV?*(>/(G*fW!(i0(goY(V(^.*)()()*(),)(C(*((d((Vd)(^d*.*)(d+)((d,*()d!ygog7.(f7((i6(!W(V(^.*)()()*()ygoo?*(>/(G*fW!(i0(op@mpo8mq2mq12o5)fo5((z(mmmlLlOlQlTlXlYlZl[l$l]l^l_lelflglnUln$ln]ln^lnllnnlnolnplo,lo6lo8lAlotloulovt" [.bin 113 0 .eql (.t 112) (.c (.str [105,110,105,116])),.bin 120 0 .eql (.t 119) (.c (.str [110,101,120,116])),.build 129 [.str [],.aS 2] [(0,1,.c (.str [116,114,117,101])),(1,1,.t 128)],.bin 146 0 .eql (.t 145) (.c (.str [108,101,103,97,108])),.build 154 [.str [],.aS 2] [(0,1,.c (.str [100,111,101,115])),(1,1,.t 153)]]
def av6:=U "gou0()hos3p(()f_((z((S(W(_.*)(/(*Y,(i!(mq420)f1((z(mmmlLlOlQlTlVlXlYlZl[l$l]l^l_lelflglnUln$ln]ln^lnllnnlnolnplo,lo4lo5lo6lo8loYl0t"
def YE:=cU "gor(W,)(+(z*xrq3m" av6
def YF:=aZ "go2(V,)(+(z*xrq0mxm" av5 YE
def av7:=aZ "gL(B*F),)(0*(((d(*J)d),)(d*b.(z,7+(i0)os*p(m*R),)(fU((l)l(j*R)(U^*)(fV!(i*(fWGG*h(K,)(+(z*xrq,mxmmmmq+mlLlOlQlTlVlWlXlYlZl[l$l]lJl#lClBlAl0l)l(ln^lnllnnlnolnplo,lo4lo5lo6lo8loYlotloulovt" av4 YF
def YG:=U "gp+*R),)(b.(z,fO((i*(nm"
def YH:=aZ "g1Qhxrq*mxm" av7 YG
def YI:=aZ "g+3hyg=V(f9((l)l(jWy`)9(z(f8bL*hb@_98f8((z((?,)(+(z*xrq(mxmmmmmm" av2 YH [.build 21 [.int .i64 0] [(0,1,.c (.int .i64 1000000))],.kc 6 [.ha]]
def av8:=U "g0(!Ld(f!((l)l(j(!yz(g4!0f3!(z(nmop)m!1(3(2Fe)(?+(>,(S+f7!(i!(mmq)l;l9l6l/t" [.bin 12 0 .eql (.t 11) (.c (.str []))]
def YK:=cU "g);+hg!(!yg/V(f!((i*(f,GS+hxrq(mmm" av8 [.build 7 [.str [],.int .i64 0] [(0,1,.t 6)]]
def YL:List bo:=[.t 2]
def av9:=U "g/(,A,(6,()4,()(0A,(6,((4,(),((0!(i1)os(p(m!5(7(8Ld(Ff*(?*(>!(G*f<!(i.((=$g(T:(l*l)js(op(mmq)mlClAl2l(t"
def YM:=U "gC!?fB!(z(nm"
def YN:=aZ "g);*hg,(,yg.V(f,((i*(f+GG*hxrq(xmmmm" av9 YM [.build 6 [.str [],.int .i64 0] [(0,1,.t 5)]]
def awa:=U "g50()hos(p(.*+)/(*f/@*`*/(l)l(j!1/0*?*(yg<?*(>,(G*f7!(i!(mq)21)f2((z(mmml?l9l6l5l1lglhlit" [.build 20 [.str [],.aS 2] [(0,1,.c (.str [116,114,117,101])),(1,1,.t 19)]]
def awb:=U "gE0()hos*p(()f=((z(!@(F(?.*)(8+(*(L(C.*)(8+(*yygR?*(>3(G*fR!(i4(mq+27)f8((z(mmmlKlQlTlUlJl#lHlGl7t" [.lit 41 2 [.t 36,.t 40],.build 42 [.str [],.aS 2] [(0,1,.c (.str [100,111,101,115])),(1,1,.t 41)]]
def YP:=U "gU(R1h(1F(fQ!(i*(nm"
def YQ:=aZ "g?(>,)((?,)(ygD+(i!*xrq*mxm" awb YP [.r5 28 false (.t 25) (.t 27)]
def YR:=aZ "g!;*hGG*hg2(2,)(+(hxrq(mxmmm" awa YQ
def YS:List bo:=[.t 6]
def awc:=U "g30()hos(p(.++)/(+f2]*+`+2(l)l(j/2+1i(f3((l)l(j(3#((z)(5f9((z(nmop)mmmq)20)f1((z(mmml<l:l8l7l4l0l*t"
def YT:=U "g)+(hnm"
def O9:=aZ "g)+(hg!(!,)(D(oUl*l)jf.+*hnmop(m(0,)(+(hxrq(mxmmm" awc YT
def awd:=U "g?0()hos(p(.*+)/(*y`*:(l)l(j(<);)*()b1*(f@((i+(mq)2/)f0((z(mmmlElDlBl?l>l=l<l;l4l/lnKlnLlnMlnNlnXt" [.alloc 8 [.str [],.int .i64 0]]
def awe:=U "gM0()hos*p(().+,*/(+fF]*+fG(*`+F(i*((O)G()((*()<k+(fJ((i,((Jb=((z)(T(W(T(W.))(b9(+)(U?)(>*(+).)0/bV()i1(op2mmmq+2=)f>((z(mmmlKlMlNlPlQlSlUlVlWl^l`lalblcl=l3t"
def YV:=U "gc!TfM!(fN+(z(uT_)nm"
def YW:=aZ "gG(A2()yf@!mi)mgJ(J,)(+(hxrq*mxmm" awe YV [.s5 34 55 [.aS 1] (.t 33)]
def Pa:=aZ "g);)+(hg5(51j(f*((5*(5+)f5!)f4((i,((4#((z)(6f:;)f9((z(nmop)mf6Qh(8,)(+(hxrq(mxmmmmm" awd YW
def YX:List bo:=[.t 2,.t 3]
def YY:=U "g)3h(*,)(D(t6l*l)jf+3hnmop(m(!b4l(m:(f.((i*(nmmm"
def Y0:=U "yhWWyg+V(f,((i+(nmm" [.hV 0 (.c .fl),.build 3 [.ha,.ha] [(0,1,.t 1),(1,1,.t 2)]]
def Y2:=U "g*9)3hg//,*1nn(f,((l)l(jg2(2E()((*()(1b3))(*f.((5.(5/)f4@*`*4)f3((l4k0((3hf73hnmop(mm(;A,(6,((4,()(:8+=*bU)*)(i!((AA,(6,()4,()6+B(4+()(GA,(6,()4,()6+H(4+()ygN8+N*?*(>*(G*yi7(fOBhnmmmmmm" [.iN [1] 38 (.t 35) (.t 37) (.list (some 31) 2 []),.q5 [1] (.t 29) (.t 31) 41]
def awf:=U "g<b?(5((z)os*v*p(bD*5()f8@*`*8(l)l(j)>(*()/:*FD)(i+(mq+mmlDl@l?l>l<l5l2l.lnKt"
def Y4:=U "gD)B(*()E()((*(),*(D(t6i.)fG+3hnmop(m"
def awg:=aZ "g1//)(1Fno)(f+((5+(5,)f1()f0((i!((0hf3++hnmop(m(2,*(C((l*l)jf6+(hnmop(m(5b>(z)xrq*mxmmmmq)l<l8l7l6l4l!l*l(lalnKt" awf Y4
def Y5:=cU "g)bK)g++(hxrq(m" awg
def awh:=U "g30()hos(p(().*,*/(*f2@*f3(*`*2(i*((4(4)4(4*())6)4*()1F(bJ*()+))(.*/.a,*()i0(mq)25)f6((z(mmmlAl?l=l<l5t"
def Y7:=U "gA!>f@!(z(u?G*nm"
def Y8:=aZ "g);*hg!(!,)(yf,!Si)Sg0(0,)(+(hxrq(mxmmm" awh Y7 [.s5 8 31 [.str [],.aS 2] (.t 7)]
def awi:=U "g8b?(5((z)os(v*p(bD*5()f7@*`*7(l)l(j!9/8*?*(>*(G*f=!(i+(mq)mml@l>l;l.t"
def Za:=U "g@(=1h(f@!(l)l(jnm"
def Zb:=aZ "g);*hg!(!E()((*(),*(bM(G*f0!(i!((3E()((*()b>(i,)xrq(mxmmm" awi Za
def sw:=U "g)+(hg/(/1T(f*((5*(5+)f0()f/((l0k,((/#((z)(1f4((z(nmop)mmg7(71np(f*((5*(5+)f6!)f5((l6k,((5f:((z(nmmmm"
def OW:=U "g,()(!,)(0*(i+)os(p(mg2(2(0.*)(/(*f2@*`*2(i+(/2*1U(:(((e()6(e)*()e*ye*g=((d():)d)*()d*,)(d+C()e07,(e1((e()@(e)*()e*ye*gG((d()D)d)*()d*,)(d+C(*e07,(e;=1(e<:(==(iA)fM3hnmop(mmq)fG(NfF2G)fN(FlGlFjmmlMlOlHl(t" [.bin 21 0 .eql (.t 20) (.c (.str [116,114,117,101])),.bin 31 0 .eql (.t 30) (.c (.str [100,111,101,115]))]
def tH:=U "gP(K,)(b.(t6fM((i*(nm"
def tI:=aZ "g)3h+(hxrq(mxmm" OW tH
def awj:=U "g3(.(1,)(0*(((d((5d)(4d*.*)(d+8+(*d,(<d!(9d..*)(d/8+(*d0<nq,(d1N((72(i7)os*p(m(>2()f@((l)l(jq+mlCl?l;l*lnUt"
def Zd:=U "gE(@(C,)(0*(((d((Gd)(Fd*.*)(d+8+(*d,(Kd!(Od..*)(d/8+(*d0<nq,(d1C((72(i7)s)op(mfQGG*h!Q(N(P^*)(>+(G*fQ!(i,(!Q(K(O.*)(/(*?*(>!(G*fQ!(i.(!Q(N(P_*)(>+(G*fQ!(i,((QfN!(z(mmmmm"
def Ze:=U "gg2T)fT((z("
def awk:=cn "g10()hos(p(()f/((z(f.+(hxrq*xmmmq)xmmml1l/l.l!l)lflnUt" awj Zd Ze
def Zf:=U "gh!NfM!(z(nm"
def Zg:=aZ "g);*h;*hg.(.,)(+(z*xrq(mxmmm" awk Zf
def OX:=U "g;(4(8,)(0*(i+)os(p(mgA(;(>(<.*)()()*()b1!(fB((i.(q)f0(Af/20)fA(/l0l/jmmlFlElCl@l?l>l=l6l1lnKlnQln]t"
def OY:=U "gM(B(K,)(0*(i+)os,p(mgS(O(K(J.+)()(()((*()<nr.((TM()(i1)!U(V?)(>*(+)fU!(i+(op,mq!f7(Vf627)fV(6l7l6jmmlMlNlPlRl]lJl>l8l,t"
def tK:=U "ga!S(U?)(>*(_)fS!(i+("
def tL:=U "gK(B2()fD((l)l(j"
def OZ:=cn "gH(?(Cb!)(l*l)jos*p(mfAG+)hf@+(hxrq,mxmmq+xmml#lHlFlDlAl@l9l4l(lnQln]t" OY tK tL
def uI:=U "ge!SfM!(fN+(z(nm"
def uV:=aZ "g/G_)h+(hxrq*mxmm" OZ uI
def kC:=aZ "g);)+(hg4(41np(f*((5*(5+)f4!)f3((i,((3#((z)(5f9;)f8((z(nmop)mf5Qhf4+(hxrq(mxmmmmm" OX uV
def awl:=U "g;(2):**(),)(0+(((d((97)(i/)os*p(mgE)C**()(>.+)()((*()((d()J*d)*()d*(Ed+.+)(d,)()d!)((d.*()d/ygT70(i7)(L(Q(R.))(4+()6+M*4+()(T.+)(6+()8+(*<nt.(<^3(:(fS((i5(op6mq+fG(TfF2G)fT(FlGlFjmmlKlOl$lHl6lndt" [.bin 44 0 .neq (.t 43) (.c (.str [100,105,115,116,105,110,99,116]))]
def Zi:=U "gc(Sh!P(Q(R.))(4+()6+M(8+(*<nt*(?*(>0(G*fP!(i1(op2m"
def Zj:=U "g9(22()f4((l)l(j"
def awm:=cn "g5(.(0,)(0*(i+)os(p(mf1Bhf0+(hxrq*mxmmq)xmml9l5l1l0l(lflnUlndt" awl Zi Zj
def Zk:=U "gnn!PfO!(z(nm"
def Zl:=aZ "g)9)g+;*hGG*hg1)/**()(2<ns)(f/!(i+(f.+(hxrq(mxmmmm" awm Zk
def awn:=U "g/(((/,)(0*(i+)os(p(mg5(/((e((6e)(1e*.*)(e+/(*e,1nu(e!D(,=.(f8((i0((>(>(9.*)(/(*<nv,(fD!(i!(mq)f8(=f728)f=(7l8l7jmml@l?l9lhljt"
def Zn:=U "gE(?f)((z(fB;*fA++hnmgG(G,)(D(t6f+((i*(fF;*fE+3hnmop+mp!mq*(JfG!(fF+(z(nmm"
def Zo:=aZ "g+;*+(h3h+(hxrq(mxmmm" awn Zn
def Zq:=U "g)9)9)3h)*(*())+(*()M(*(((d()0)d)*()d*)1)d+*()d,<2*(7!(f4((i3(nmm"
def Zr:=U "9(3h/)*1nw(((d(),(d)*()d*1nx(7+(f/((i.(nmm"
def Zt:=U "9(3h/)*yf)(Ol(lOjnmm" [.eP (some 4) 81 [.t 3,.c (.int .i64 4),.c (.bool false)]]
def awo:=U "g70()hos(p(.++)/(+f1b/*`+1(l)l(j/1+1nz(z)b96nx+/4+?+(>*(nx+bV:(i+(b99nx+/8+?+(>*(nx+bV=(i+(p0mmq)25)f6((z(mmmlElDlCl<l;l:l5l1t"
def Zu:=U "gEWygGV(y`)>(i*(yhy`)=lzlg#*>)yl(lnKjmmm" [.build 31 [.ha,.aS 1] [(0,1,.t 30)],.kc 10 [.fl],.kc 11 [.k4],.pq 33 83 [.t 6,.t 7,.t 3,.t 10,.t 5,.t 4,.t 11],.lY (some 35) (.t 34) [.c (.int .i64 0)]]
def Zv:=aZ "g*V*9*V*hbL+bL+hg3)/**(),)(+(z+xrq(mxmmm" awo Zu
def Zw:List bo:=[]
def Zx:=U "g*9*h**)((e(/**e)1S(e*D(,=+(`)0(i!(*/)//*FD)(i*(mm"
def awp:=U "g10()hos(p(.*+)/(*f/@*`*/(l)l(j(1/0*1S(b1*(f5((i+(mq)2/)f0((z(mmml9l8l7l4l/t"
def Zz:=U "g9(62()f9((l)l(jnm"
def ZA:=aZ "9(+(h+(hg!),)*(),)(+(z+xrq(mxmmm" awp Zz
def awq:=U "g0(,(1,)(0*(i+)os(p(mg6(6(3.+)(/(+1o!(f6((i,((6#((z)(9(9f=()f<((l)l(jnmop*mmq)f2(;f122)f;(1l2l1jmml=l<l:l7l3l*t"
def ZC:=U "g)+(+(hnm"
def Pd:=aZ "g)+(+(hg!(!,)(D(oUl*l)jf.+oUf!+*hnmop(mf,+(hxrq(mxmmm" awq ZC
def ZE:=U "9(3h/)*yf)(Ol(lOjnmm" [.eP (some 4) 89 [.t 3,.c (.int .i64 4),.c (.bool true)]]
def awr:=U "gH0()hos(p(()fG((z((J(HK)(1o/(:(((d((Kd)(Nd*K)(d+1o0(d,:(7!(((d((Kd)(Nd*K)(d+yg[7,(i9)fM3hnmop(mmq)2<)f=((z(mmmlMlNl@l<l)t" [.bin 51 0 .neq (.t 50) (.c (.int .u8 45))]
def ZG:=U "g)Bhnm"
def ZH:=aZ "g)3hg+(+,((N()((e((/e),((e*D(8=+(((e((4e)b(((e*1o/(e+:(=,(((e((:e)yg<=*(((e((>e)yg@=*(((e((Be)ygD=*(iA)fC3hnmop(m(E,((+(z*xrq(mxmmm" awr ZG [.bin 20 0 .eql (.t 19) (.c (.str [105,102])),.bin 24 0 .eql (.t 23) (.c (.str [97,110,100])),.bin 28 0 .eql (.t 27) (.c (.str [110,111,116]))]
def aws:=U "g80()hos(p(()f2((z((3(:S)(l*l)j(6f8((z(nmop)m(7)<)*()(9.*)(/(*(C(CO()PW+*(J1(fB((i2(mmq)29)f:((z(mmmlJlDlBl@l9l5t"
def CD:=U "gJ(CfE((z(nm"
def Pe:=aZ "g*9*g!+(hg0(.N()z)(12()f.((l)l(jnmop*mf!+)h)1)*(),)(+(l+l*jxrq(mxmmmm" aws CD
def awt:=U "g7(1(8,)(0*(i+)os(p(mg=(=(8.*)(/(*f:@*`*:(i+((@/;*Y)(:(i+)(E(A/@*.**)`*()i+((D2()fF((l)l(jmop.mmq)f7(Ef627)fE(6l7l6jmmlGlDl?l8l.t"
def ZI:=U "gK(K(G_*)(yi*((K(J^*)(fO!(i*(nmm" [.s9 31 [.str [],.aS 2] (.t 38)]
def ZJ:=aZ "g+;*hg/(/(/Fo1)(f!((i*((!yz(g4(4f1!(z(nmop)m(02()f1((l)l(jxrq(mxmmmm" awt ZI [.bin 12 0 .eql (.t 11) (.c (.int .i64 (-1)))]
def ZL:=U "g)9)3hg./!*/!*yf*(Tg15+(5,)f/!)f.((l/k!((.:(f2((l)l(jnmmm" [.eP (some 9) 50 [.t 7,.t 8,.c (.aS 3)]]
def ZM:List bo:=[.t 3]
def Pf:=U "g*9*9*g!;+3hg1/!*1P(:(((e((3e)1o2(e*:(=+(i/)f3;+f23hnmop(mg:/7*/7*(:Po3*)(f,((5,(5!)f8!)f7((i.((7:(((e((;e)1o2(e*:(=+(i.)fA;+f@3hnmop(m(?1o4(fC!(fBBl)l(jnmmmmm"
def Pg:=U "g*9)+(hg/(//!*yf*(Ug25+(5,)f/()f.((i!((.:(z)f2Qhnmop(m(1f3((z(nmmmm" [.iu (some 10) 98 [.t 8,.t 9,.f 99]]
def awu:=U "g1(,(,0)(l*l)jos(p(m(/(/J)(bQ(*f1((i+((8(2.*)(8+(*8+9*<nq)(N((i.)(82()f<((l)l(j(:f<((z(p+mmq)mlAl>l;l6l+t"
def ZP:=U "gB(=(C,)(0*(((d((Gd)(Cd*.*)(d+8+(*d,8+H*d!<nq)(d.C((7/(fO((i4(nm"
def ZQ:=aZ "g*9)3hg/(/,)(f,+(f+((l)l(jxrq(xmmm" awu ZP
def ZS:=U "g*9*hg,/)*1`(f*((l)l(j*!)(+yg1:(((d(/0*d)1a(d*b.(,7+(i0)*6)(4bW))(l)l(j4,7)8+7*,))yg=b7G*+(.*(*yyi!(mop0mmm" [.look [1] 9 (.t 7) (.t 8) (.bool false) false,.lit 21 2 [.c (.agg [.str [],.aS 2])],.lW true 2 (.t 23) (.t 19),.lW false 1 (.t 2) (.t 22)]
def awv:=U "g30()hos(p(()f1((z((2)5)*()(4.*)(/(*1`(yg=J/(f;((i0(mq)23)f4((z(mmml?l=l;l3t" [.bin 21 0 .add (.t 20) (.c (.str [44]))]
def ZU:=U "g?(<yf>(dl(ldjnm" [.bin 25 0 .add (.t 24) (.c (.str [41]))]
def ZV:=aZ "9(yhg,)+(*()yf+(Ri)Rg/).)*(),)(+(l+l*jxrq(mxmmm" awv ZU [.hV 2 (.c (.str [])),.bin 7 0 .add (.t 6) (.c (.str [40]))]
def aww:=U "g00()hos(p(()f.((z((/)2)*()(1.*)(/(*1a(b1.(f7((i/(mq)22)f3((z(mmml;l9l7l2t"
def ZX:=U "g;(82()f;((l)l(jnm"
def ZY:=aZ "9(+(h+(hg,)+)*(),)(+(l+l*jxrq(mxmmm" aww ZX
def awx:=U "gT0()hos,p(()f#((z((M(J.*)(6,((4,())U(4*()H(*(((e((Me)(Xe*.*)(e+6,()e,4,()e!,)(e.)U)e/4*()e0,)(e1H(+(=2(i;)s!op(m(KE()((*()O()E,)((`)(*i.(gnr8)U*(M(X.*)(8,(*(S(W.))(4+()Po90,(f2((52(53)fY!)fZ((i4((Zh!V(Y?)(>*(o0)fV!(i+(op,m(KE()((*()N((((e((Ve),)(e*ygo9=+(i1)fQ;)fR3hnmop(mmmmmmq!2nT)fnT((z(mmmlQlRlTlXlYlZl_lnLlnPlnUlnjl7l)t" [.bin 100 0 .gtr (.t 99) (.c (.int .i64 5000))]
def Z0:=U "go;2nO)fnO((z("
def awy:=aZ "gO0()hos*p(()fE((z((M,)(+(z*xrq,mmq+xmmmlQlRlTlHlGlFlEl@l0l,l)l(lnUlnjlo,lo:t" awx Z0
def Z1:=U "go<(VfS!(z("
def Z2:=U "go=2^)f^((z("
def awz:=cn "g;0()hos(p(()f4((z((<(5.+)()()/(*f8@*`*8(i,((A(:.+)()((*()((e()>(e)*()e*ygK=+(i1)s)op(mfAGo0)h(D,)(+(z*xrq*mxmmmmmq)xmmml#lHlFlElDlClBlAl@l;l+l)l(lnPlnSlnTlnUlnjlo,lo:t" awy Z1 Z2 [.bin 35 0 .eql (.t 34) (.c (.str [100,105,115,116,105,110,99,116]))]
def Z3:=U "go>!SfQ!(fRBz(nm"
def Ph:=aZ "g!;)3hy![z[g8(7,)(+(z*xrq(mxmmm" awz Z3 [.nV 16 91 1 [.c (.aS 3)]]
def awA:=U "g70()hos(p(()f3((z((8(4.+)(6+((4+()6+<(4+()M(*(i/)(@(<.+)()()/(*`*B(fABi,(nmop!mmq)27)f8((z(mmmlGlBlAl@l?l>l=l;l7l.lnNlnOlnPln]t"
def Z5:=U "gG/E*`*D(fC3z(nm"
def awB:=U "gO0()hos*p(()f#((z(gR)M)*()(S.*)(/(*(L<c)(f/((5/(50)fT@*`*T)fU((i1((U:(z)/M*`*O(fP3z(nmop)m)R)b9(G*/T*?*(>*(G*)R)bV()i!(mmmq+2=)f>((z(mmmlKlPlQlSlTlUlWlYlZl[ldl=l0t"
def Z6:=U "ge/R*`*O(fPBz(nm"
def Z7:=aZ "gH)F(*()b5*()(fD@*`*D(i*()#)*(),)(+(l+l*jxrq*mxmm" awB Z6
def Pj:=cn "g)9)g+@*3hg2/0*1o:(z)(3,)(+(z*xrq(mxmop+mxmm" awA Z5 Z7
def Z8:List bo:=[.b 4 2,.t 5]
def awC:=U "g1(1A,(6,()4,()(5A,(6,((4,(),((0!(((d((<d)A,(d*6,((d+4,()d,(@d!A,(d.6,()d/4,()d0K,(d1b6(Ud2((e((Ge)A,(e*6,((e+4,()e,(Ke!A,(e.6,()e/4,()e0K,(e1b*(Xe2((d((Kd)A,(d*6,((d+4,()d,(Kd!A,(d.6,()d/4,()d0K,(d1b)(ae=72(d#=>(dJ((e((Ke)A,(e*6,((e+4,()e,(Ke!A,(e.6,()e/4,()e0K,(e1b*(o6e2((d((Kd)A,(d*6,((d+4,()d,(Kd!A,(d.6,()d/4,()d0K,(d1b)(oOe=72(d_=>(d_((e((Ke)A,(e*6,((e+4,()e,(Ke!A,(e.6,()e/4,()e0K,(e1b*(ie2((d((Kd)A,(d*6,((d+4,()d,(Kd!A,(d.6,()d/4,()d0K,(d1b)(o/e=72(d_=>(7_(iU)os(p(m(KE()()*()2()E,)()`)(*i.(q)mlMl/t"
def Z9:=U "goC(KA,(6,((4,()(N(KA,(6,()4,()yfM(oMi0oMnm" [.qb 120 0 (.t 114) (some (.t 115)) (some (.t 119))]
def aaa:=aZ "yhg+(+Lo;(l)l(j(!E()()*()f.((i+(xrq(xmmmm" awC Z9 [.hV 2 (.c (.str []))]
def awD:=U "g3(3A,(6,()4,()(7A,(6,((4,(),((0!(((d((>d)$g(Vd*:(7+(i6)os(p(m(BLd(l)l(j(DLd(f@((l)l(j(@yf@(kl(lkjgH(Ah(#Ld(fE((l)l(jop*m(Eyz(gM/H+`+J(z(nmop)m)#*b0*(nx+(#(K(QFf)(ygU?+(>.(nx+)P*bT*()i1(mmmmmq)mlLlQlRl>l7l3t" [.bin 32 0 .eql (.t 31) (.c (.str [110,111,116])),.bin 37 0 .eql (.t 36) (.c (.str [])),.build 45 [.bool false,.str [],.aS 2] [(0,1,.t 41),(1,2,.t 44)]]
def aac:=U "gX/P+`+O(z(nm"
def aad:=aZ "g+]*+hg/(/(/Ff)(yf!]*+`+!Vi*Vxrq(xmmm" awD aac [.build 11 [.str [],.aS 2,.aS 3] [(0,2,.t 10)]]
def aae:List bo:=[.b 4 3]
def awE:=U "g4(4A,(6,()4,()(8A,(6,((4,(),((0!(i1)os(p(m(>Ld(f:((l)l(j);)b0*(G*(B(=Ff)(?*(>,(G*)B)bT*()i/((H$g(T:(l*l)js(op(mmmq)mlJlEl@l5l(t"
def aaf:=U "gK(K$g(Ql)l(j/H*`*J(z(nmm"
def aag:=aZ "g+@*hg.(!b5*()(f+@*`*+(l)l(j(0$g(P:(l*l)j/.*`*0(z(nmop)mxrq(xmmmm" awE aaf
def aah:List bo:=[.b 4 2]
def aai:=U "g+3h(,Lo;(l)l(j(.A,(6,()4,()(2A,(6,((4,(),((0!(((d((9d)A,(d*6,((d+4,()d,(=d!A,(d.6,()d/4,()d0K,(d1(Ad2M()(73(i>)(EE()()*()2()E,)()`)(*i.(fHBhnmmop/mfH3hnmmmm"
def awF:=U "g50()hos(p(().*,*/(*f3@*f4(*`*3(i*((4C((((e((9e)(8e*O()e+.**(e,8+(*e!8);*e.<o8)(e/#((=0(i3)!A/@*1o>(?*(>+(G*fF!(i,(op!mmq)2=)f>((z(mmmlKl#lFlEl=l.t"
def aak:=U "gK!GfJ!(z(nm"
def Pk:=aZ "g);*hg.(.Lo<(f!!(l)l(j(!b4o=(o8l)l(jf.GG*hu/G*(/,)(+(hxrq(mxmmmmm" awF aak
def awG:=U "g80()hos(p(().*,*/(*f7@*f8(*`*7(i*(/7*(9C((<o@*(f:((i+((:#((z)(<fA((z(nmop)mmmq)23)f4((z(mmmlDlBl@l?l>l=l9l3l*lklnKlnOlndt"
def aam:=U "gD(A1oA(,)(D(!i+)fF+3hnmop(m/G+1oB(:(l*l)jf#+/hnmop(m)J()((*()yi*(gO)L()()*()T*((/(*fR@*`*R(i,()L**(),)(D((((e()R)e)*()e*,)(e+D((=,(((e()R(e)*()e*1nx(e+:(=,(i7)fM+0hnmop(mmop=mfM+(hnmmmm" [.bin 39 0 .eql (.t 38) (.c (.str [114,111,108,101]))]
def aan:=aZ "9(+(hg/).**(),)(D(0i+)f1+*hnmop(m/2+1o?(f2!(l)l(j(2,)(+(hxrq(mxmmmm" awG aam
def awH:=U "g>0()hos*p(.++)/(+f8bS`+8(l)l(j(;)9)4*()bA)*((8)<+1oE(J*(f>((i.((B)@(*()bA)*(((B0)(i!)(H)F(*()(GbU)+)(i+(fRBh(H(O,)(bR*(i+)fM;*fN+2hnmop(mmmop0mmmq+2@)fA((z(mmmlKlMlNlTlUlVlJlDl@l1l)lnXlnYlnZln[t"
def awI:=cU "g:(3hos(p(mf43h(6,)(+(hxrq*mmq)ml>l<l;l5l4l3l1l+l*l)l(lblnNlnVlnXlnYlnZln[t" awH
def awJ:=U "gZ0()hos,p(.)+)*()fX((l)l(j!V(X(Q(XbA))((ygc?*(>.(o=*fV!(i/(mq!23)f4((z(mmmlKlMlNlOlPlRlTlUlXl^l_l`lalbl@l8l3t" [.build 59 [.str [],.int .i64 0] [(0,1,.t 55),(1,1,.t 58)]]
def aap:=U "gf!VfM!(fN+(z(nm"
def aaq:=aZ "g2Go=*hgW(O,)(+(hxrq,mxmm" awJ aap
def aar:=aZ "g);*+(hg5(51oC(f3!(l)l(j(71oD(f4!(l)l(jWf4((z(f3Bhxrq(mxmmmmm" awI aaq
def Pl:=U "g*9)+(hg!(!b2oG+FoF)(f+((i*((+N((z)f.Qhnmop(m(2(..*)()()*()f3((i,(nmmmm"
def aau:=U "g+3h(,(,Fo1)(b=((f,((i+(nmm"
def aaw:=U "9(3hg,)+(*()yg/((d()/)d)*()d*,)(d+C()7,(f2((i0()4(*()yg8((d()8)d)*()d*,)(d+C(*7,(f:((i0((;:(((d((=d):(7*(((e(/D*e)1P(e*:(=+(fG((i2(nmmmm" [.bin 7 0 .eql (.t 6) (.c (.str [116,114,117,101])),.bin 16 0 .eql (.t 15) (.c (.str [100,111,101,115]))]
def aay:=U "9(yhyhg+/**FoH)(l)l(jLo#*f,((z(nmmmm" [.hV 2 (.c (.str [])),.vy 3 148 [.fl,.aS 1]]
def awK:=U "g80()hos(p(.++)/(+f2]*+`+2(l)l(j/9)/3+b@oJ67ZQ*)(i+(mq)2/)f0((z(mmml@l?l<l;l7l6l4l/lelglnQt"
def awL:=U "gBb?(5((z)os*v*p(bD*5((f<((l)l(jgG)E(*()E()((*()(Bb3))(*f/((5/(50)fE@*`*E)fD((lEk1((Dh*Q)(Hyl)l(jop*mmmq+mmlKlLlOlPlJl#lGlElDlClBl7l*t" [.qd [1] none (.t 42) (.t 43)]
def aaA:=U "gS4,Q)4,R)fO()fP((l)l(jnm"
def aaB:=aZ "g@*:)b>(z)xrq*mxm" awL aaA
def aaC:=aZ "g)bK)yg,3hg4Wyy`)/(bX).z((4,)(+(hxrq(mxmmm" awK aaB [.hV 4 (.c .ha),.kc 6 [.ha],.kc 7 [.bool false]]
def uX:=U "g);*+(hg.(.1oL((01oM(<oK*(f!((5!(5.)f1!)f0((i/((0:(z)f5;*f4+2hnmop(m!3f6!(f5+(z(nmmmm"
def aaE:=U "g)9)9)+(hg!8++*1oO(8+,*1oO(<oN*(f!((i,((!#((z)(/f1((z(nmop)m/3*1oO(C((l*l)j6+6(4+()1oP(6+8(4+()1oP(<oN+(f;((i.(nmop/m)=)*(),)()?)*(),)(H(+(i.))D)*(),)()F)*(),)(<oN+(f#((i.(nmop/m)M(*())N(*()<oQ*(fP((i,((P#((z)(PfO((z(nmop)m)M)*())N)*()<oR*(fO((i,(nmmmmmmmm"
def O0:=U "g!(((.,)(0*(i+)os(p(mg3(3(/.*)()((*()(7M()(i.)(:(6.*)()()*()f;((i,(nmop!mq)f5(:f425)f:(4l5l4jmml;l6l!t"
def wH:=U "g+Qhnm"
def kD:=aZ "g++(h+(hxrq(mxmm" O0 wH
def awM:=U "gK(B(L,)(0*(i+)os,p(mgR(K(Q.+)(6+()8+(*(L(T.*)(8+(*(P(S.))(4+()PoT0,(f6((56(57)fU!)fV((i8((Vh!R(U?)(>*(nq)fR!(i+(op,mmq!f?(Tf>2?)fT(>l?l>jmmlOlUlVlWlXlYlZl[l`lJlFl@l,lnllnulo+loEt"
def aaF:=U "g#(A2()fC((l)l(j"
def awN:=aZ "gE(=(A,)(0*(i+)os*p(mf@+(hxrq,mq+xmmlEl@l?l>l=l<l;l:l9l4l,l(lnOlnclnllnulo+loEt" awM aaF
def aaG:=U "gg(RfP!(z("
def aaH:=U "g=(72()f9((l)l(j"
def awO:=cn "g9(3(:,)(0*(i+)os(p(mg?(?(:.+)(/(+1oS(:(i!)s)op(mf>Gnq)hf=+(hxrq*mxmmmq)xmmlAl>l=l<l;l:l9l8l7l6l5l0l(lllnOlnclnllnulo+loEt" awN aaG aaH
def awP:=U "gnn(Z(K,)(0*(((d((Y7)(i.)os0p(mgnw(K(Z.+)()())((*()yi!(go+(P(X.))(4+()(K(Z.+)(6+()8+(*<nt!(f[@*a)*[(i1()[)4*()T*((8+(*)[)4*()T*()8+(*<N,((K(Z.+)(6+((4+()M+!(fY((i6(mopAmq1f#(ZfH2#)fZ(Hl#lHjmmlLlOlQlRlSlTlUlVl[l`lhlllnOlnclnllJlAloEt" [.bin 86 0 .eql (.t 85) (.c (.str [100,105,115,116,105,110,99,116]))]
def aaI:=U "goD(Yh!W(P(X.))(*()?)(>!(nq)fW!(i.(op/m"
def aaJ:=U "gl(X2()fX((l)l(j"
def awQ:=cn "gh(X(P,)(0*(i+)os.p(mfYBhfZ+(hxrq0mxmmq/xmmlLlOlQlRlSlTlUlVlYlZl[l`lhlllEl1l(lnulo+loEt" awP aaI aaJ
def aaK:=U "goL!WfO!(z(nm"
def aaL:=aZ "g3Gnq)h+(hxrq.mxmm" awQ aaK
def aaM:=aZ "g+;)hy!$z$+(hxrq(mxmmm" awO aaL [.nV 17 73 1 [.c (.aS 3)]]
def awR:=U "g?(7)=)*(),)(0+(i,)os(p(mgF)?)b0*(G*(H6+F)4+()(C.*)(8+(*<nt!(?*(>0(G*)J)bT*()i3(q)f5(Jf425)fJ(4l5l4jmmlLlPlQlHl@l6t"
def aaO:=U "gR/R*`*O(z(nm"
def JJ:=aZ "g*9)@*hg0/!*1oU(z)g3(3)1(*()<oV*(f,((5,(5!)f4@*`*4)f3((i.((3h/5*`*7(z(nmop)mm/8*`*8(z(nmmop2m)9(*()b5*()(f8@*`*8(i*(f7+(hxrq(mxmmmm" awR aaO
def awS:=U "g00()hos(p(()f.((z((/)2)*()(1.*)(/(*1nu(b1.(f7((i/(mq)22)f3((z(mmml;l9l7l2t"
def aaQ:=U "g;(82()f;((l)l(jnm"
def aaR:=aZ "9(+(h+(hg,)+)*(),)(+(l+l*jxrq(mxmmm" awS aaQ
def awT:=U "g2(!(!0)(l*l)jos(p(m(0(0J)(bQ(*f2((i+((9(3.*)(8+(*8+:*<nq)(N((i.)(92()f=((l)l(j(;f=((z(p+mmq)mlBl?l<l;l6l+lnPt"
def aaT:=U "gC(>(D,)(0*(((d((Hd)(Dd*.*)(d+8+(*d,8+#*d!<nq)(d.C((7/(i4)(KfO!(z(nmop)mf#GG*h!#(K(P^*)(>+(G*fS!(i,(!S/N*?*(>*(G*fS!(i+(!S(K(P_*)(>+(G*fO!(i,(nmmmmm"
def aaU:=aZ "g*9);*hg0(0,)(f!+(f,((l)l(jxrq(xmmm" awT aaT
def aaV:=U "9(3h/)*yf)(Ol(lOjnmm" [.eP (some 4) 81 [.t 3,.c (.int .i64 4),.c (.bool true)]]
def aaW:=U "g)3h(*yyyyg/<oW,(((d((1d)yg37*(((d((5d)yg77*(((d((9d)yg;7*(f:((i9(nmm" [.build 4 [.int .u8 0,.int .u8 0] [(0,1,.c (.int .u8 97)),(1,1,.c (.int .u8 122))],.build 5 [.int .u8 0,.int .u8 0] [(0,1,.c (.int .u8 48)),(1,1,.c (.int .u8 57))],.build 6 [.int .u8 0,.int .u8 0] [(0,1,.c (.int .u8 45)),(1,1,.c (.int .u8 45))],.build 7 [.int .u8 0,.int .u8 0,.int .u8 0,.int .u8 0,.int .u8 0,.int .u8 0] [(0,2,.t 4),(2,2,.t 5),(4,2,.t 6)],.bin 11 0 .neq (.t 10) (.c (.str [105,102])),.bin 15 0 .neq (.t 14) (.c (.str [97,110,100])),.bin 19 0 .neq (.t 18) (.c (.str [110,111,116]))]
def awU:=U "gP0()hos(p(.*+)/(*fS@*`*S(l)l(j/S*(LO()(MPny+)(:(i!)fQ3hnmop(mmq)21)f2((z(mmmlKlQlSlJlFl1l)t"
def aaX:=U "gZ)N(*()1nx(fQ((i*(nm"
def Pn:=aZ "g*9*g!3hg0(/N()((e()0)e)*()e*,)(e+D(,=,(i/)f23hnmop(m)5)*(),)(C((i+))9(*()1nx(((e()=(e)*()e*1oX(=+(((e((Ce)((d()D(d)*()d*1oY(e!7+(=.(fF((i7(nmop8m)#)*(),)(+(z+xrq(mxmmmm" awU aaX
def aaY:=U "9(3h))(*():(((d()!)d))((d**()d+yg27,(f1((i0(nmm" [.bin 10 0 .neq (.t 9) (.c (.str [100,105,115,116,105,110,99,116]))]
def awV:=U "g<0()hos(p(.++)/(+f5b/*`+5(l)l(j/<)/6+*=)Zo)*)(:(i,)nop(mmq)20)f1((z(mmmlElDlCl>l;l:l8l4l0l)ln$ln]ln^ln_lnit"
def aa0:=U "gE4,@)4,B)6+A(8+(*bEo**(Y,(i!(nm"
def awW:=U "g^0()hos*p(.*+)/(*fX@*`*X(l)l(j4,O)4,L)(K.+)(6+()8+(*8)X*Zo+.)(i/)*R)(K2()Y*(i+(op,m*O)(VFo,)(i*(mmq+2:)f;((z(mmmlMlNlPlQlUlXl$l]l^l_l`lgl:l0t"
def aa1:=cU "gK*G)E()()*(),)(fE((i,(6,N(4,()A,(6,()4,()4,L)(K.+)(6+()6+((4+()yg$,)(+(i5+xrq*mm" awW [.look [1] 52 (.t 45) (.t 51) (.aS 2) false]
def Po:=cn "g5(5*5),)(M(*(i+)*7),)(+(hxrq(mxmop+mxm" awV aa0 aa1
def aa3:=U "g*bK*9*g!3hg0(.)!)/(*bEo**(f!@*`*!(i+()!(*()yg7((d()1)d)*()d*,)(d+C(*7,(i0))6)4*()T*((8+(*):)4*()T*()8+(*<o8,(#((f?((i1((?)D(*()H+*(fE((i+(nmmop6m)H(4*()8)F*FoZ)(:(6+O(4+()M+*(fQ((i/(nmmmm" [.bin 15 0 .eql (.t 14) (.c (.str [100,105,115,116,105,110,99,116]))]
def awX:=U "gO0()hos(p(()f#((z()J)4*()(S(K6+N)4+()(S.*)(8+(*bEo*!(.*0/a,*()i2(mq)25)f6((z(mmmlLlPlQlSlUlHlBl5t"
def aa5:=U "g]/R*`*O(z(ncO)G*m"
def aa6:=aZ "g*9)@*hg0/!*1o[(z)g3(3A,(6,((4,()6+4(4+()b3)*(*f/((5/(50)f7@*a)*7)f6((i1((6h/8*`*:(z(nc:)G*mop)mm/;*`*;(z(nc;)G*mmop5m)<)*(),)(C((i+)/@*`*@(z(nc@)G*mop)m6+A(4+()6+C)4+(),)(ygJbJ*(),))(fD@*a)*D(i.()H)*(),)(+(l+l*jxrq(mxmmmmm" awX aa5 [.s5 34 31 [.str [],.aS 2] (.t 33)]
def awY:=U "gH0()hos(p(()fC((z((J6+G)4+()(F.*)(8+(*6+P)4+()(R.*)(8+(*Zo+2!(:(i4)fQ3hnmop(mmq)27)f8((z(mmmlLlMlQlRlTl<l7l)t"
def aa8:=U "g!Bhnm"
def aa9:=aZ "g+9*9*3hg//+*1o[(z)(1).(*()//*Zo$+)(f0((i,(nmop!m)2(*())3(*()H(*(((e()8)e)*()e*,)(e+):)e,*()e!,)(e.H(+(=/(i5)f>3hnmop(m)@)*(),)(+(l+l*jxrq(mxmmmm" awY aa8
def awZ:=U "g50()hos(p(.)+)*()f3((l)l(j(8E()((*()(7yi,(mq)20)f1((z(mmml9l0t" [.qd [1] none (.t 20) (.t 21)]
def abb:=U "g>(>(?E()()*()(B^))(E.)()`)(*i0("
def abc:=aZ "g!(!E()()*()(0_))(,)(+(i/+xrq(mxm" awZ abb
def wP:=U "9(+(hg+)***(),)(D(0i+)f!+*hnmop(m/.+1o](f.((l)l(j(.#((z)(0f2((z(nmop)mmg5/4+1o^(,)(D(!f,((i+(f7+3hnmg:/9+1o_(:(f+((i*(f;+/hnmg>)=()((*()ygB((d()B*d)*()d*,)(d+D((d,((e()G(e))()e**()e+T*((e,)()e!*()e.,)(e/D((d5=0(d6((e()L(e))()e**()e+T*((e,)((e!*()e.1V(e/:(d?=0(7@(fF((iE(fM+0hnmopFmpJmpXmq(fM+(hnmmmmm" [.bin 26 0 .eql (.t 25) (.c (.str [114,111,108,101]))]
def aw0:=U "gM0()hos(p(()fH((z()N)*()(J.*)(/(*(LO()(MPo.+)(:(i1)fQ3hnmop(mmq)24)f5((z(mmmlKlQlRlTlXl9l4l)t"
def abf:=U "g!Bhnm"
def CF:=aZ "g*9*g!3hg/(.N()z)f+3hnmop(m).)*(),)(C((i+)/2*1o`(((e((6e):(e*((d(/8*d)1oa(e!7*(=.(f9((i1(nmop2m)<(*()1V(:(((e()A)e)*()e*,)(e+D(,=,(i1)fC3hnmop(m)F)*(),)(+(l+l*jxrq(mxmmmmm" aw0 abf
def abh:=U "g)3h(*b*(o6((d((!d)b)(oO7*(f.((i!(nmm"
def abi:=U "g)3h(*b*(X((d((!d)b)(a7*(f.((i!(nmm"
def aw1:=U "g00()hos(p(()f!((z((1(3(/.*)(/(*Y,(i!)(3f5((z(nmop)mmq)21)f2((z(mmml6l5l1l*t"
def abj:=U "g+Qhnm"
def Pp:=aZ "g++(hg!(!,)(+(z*xrq(mxmm" aw1 abj
def aw2:=U "g20()hos(p(().+,*/(+yf3(*`+2(i*()2(4*()1oY(:(((e()7)e)8*(*e*1nw(e+:(=,(((e((>e)D((e*((d()@(d)4*()d*(Fd+(Dd,O()d!.+*(d.6+((d/4+()d0b!.(e471(=5(i@)fM3hnmop(mmq)2E)fF((z(mmmlMlNlOl#lEl)t" [.alloc 4 [.str [],.str [],.aS 2]]
def abl:=U "g)Bhnm"
def Pq:=aZ "g)3hg,(,,)(D(hl*l)jf!3hnmop(m(/,)(+(hxrq(mxmmm" aw2 abl
def aw3:=U "g$0()hos(p(()fV((z(g_6+N)4+()(V.*)(8+(*6+O)4+()(V.*)(8+(*(MPo3.)(f4((54(55)fM!)fU((i6((U:(z)fQ;+fR3hnmop(mmmq)2;)f<((z(mmmlKlLlQlRlSlTlUlVlXl`l@l;l)t"
def abn:=U "gnp(MfQ!(fRBz(nm"
def CG:=aZ "g*9*9*g!;+3hg3/0*1ob(z)g6(4)4(*()<oc*(f,((5,(5!)f4()f3((i.((3h(;(<(7.+)(6+()8+(*8+?*<od)(f?!/f>((i/(nmop0mm(C)C(*()/D*Poe+)(fD!(fCBi,(nmmop=m)G(*())H(*()H(*(((e()N)e)*()e*,)(e+)O)e,*()e!,)(e.H(+(=/(i5)fQ;+fR3hnmop(mfUBh)N)*(),)(+(l+l*jxrq(mxmmmmm" aw3 abn
def aw4:=U "g00()hos(p(.++)/(+y`+.(l)l(j!0)/(4*())1)8*(*1of(b;*()+)*(?+(>/(oy+f9!(i0(mq)24)f5((z(mmml=l;l8l4t" [.alloc 5 [.str [],.str [],.aS 2]]
def abp:=U "g=!:f<!(z(nm"
def abq:=aZ "g);+hGoy+hg!(!,)(+(hxrq(mxmmm" aw4 abp
def aw5:=U "g6(!(!0)(l*l)jos(p(m(0(0J)(b+(b,()X(f4((i!((=(@(6.*)(8+(*8+@*U!)(N((i/)(<2()f@((l)l(j(>f@((z(p+mmq)ml#lDlCl?l9l+t"
def abt:=U "gJ(A(B(D0)(((d((Md)(Kd*(Hd+.*)(d,8+(*d!8+O*d.U!)(d/C((70(fQ(5fR((i5(nm"
def abu:=aZ "g+9*g!+(3hg3(3,)(f!((l)l(j(!f!+(f,((z(xrq(xmmmm" aw5 abt
def abw:=U "g)9)9)+(hg.8+,*1oi(8+!*1oi(yya),!*a),,(i+(g3/.,/.,yf*(Yi)Yg6)4)*())5)*()<oj*(f7((i,(nmg<)7(*())8(*()H(*(f!((i,()<(*())=(*()<ok*(fB((i,(nmgG)B)*())C)*()H(*(f!((i,()G)*())H)*()<ok*(fO((i,(nmgR)P**())Q**()H(*(f!((i,()P**())Q**()<ok*(fO((i,(nmop2mp=mpHmpVmq()P+*())Q+*()<ol*(fO((i,(nmmmm" [.alloc 5 [.int .i64 0,.int .i64 0,.int .i64 0,.str []],.alloc 6 [.int .i64 0,.int .i64 0,.int .i64 0,.str []],.ur 14 false [0,0,0,1] (.t 12) (.t 13)]
def aw6:=U "g70()hos(p(()f1((z((7(2.+)(6+((4+()6+;(4+()M(*(i/)(?(@(;.+)(6+()8+(*8+C*<N)(fC!/fB((i/(nmop0mmq)2:)f;((z(mmmlJl#lDlClBlAl@l>l:l1lnalnit"
def abx:=U "gJbBoW+(#>)(oW+6+J(4+()8+O*b;*()))*(?+(>!(oW+fQ!(fRBi0(nm"
def aw7:=U "ga(U)N)*(),)(0+(((d((T7)(i/)os*p(mgl6+N)4+()(U.*)(8+(*6+O)4+()(U.*)(8+(*(MPo9.)(f4((54(55)fM!)fT((i6(q+f8(Uf728)fU(7l8l7jmmlKlLlQlRlSlWlYlZl[ldlAl9t"
def aby:=U "gnz(M(TfQ!)fR((l)l(jnm"
def abz:=aZ "gS)N(*())O(*()H(*(((e()N)e)*()e*,)(e+)O)e,*()e!,)(e.H(+(=/(i5)fQ;+fR3hnmop(mfTBhfU+(hxrq*mxmmm" aw7 aby
def JL:=cn "g*9*9*g!;+3hg2//*1o:(z)(2,)(+(z*xrq(mxmop+mxmm" aw6 abx abz
def Pr:=U "9(3h)))*(),)(C((((d().(d)*()d*yg27+(((d()3(d)*()d*b(((d+b*(i7,(((d()9(d)*()d*b(((d+b)(o/7,(f=((i<(nmm" [.bin 10 0 .neq (.t 9) (.c (.str []))]
def aw8:=U "g)()A,(6,()4,()(!A,(6,((4,(),((0!(((d((4d)A,(d*6,((d+4,()d,(8d!A,(d.6,()d/4,()d0K,(d1b6(Hd2((e((?e)A,(e*6,((e+4,()e,(Ce!A,(e.6,()e/4,()e0K,(e1b6(2d==2(7>(i#)os(p(m(KE()()*()2()E,)()`)(*i.(q)ml/t"
def abC:=cU "xrq(" aw8
def Ps:=U "g);*h(*bN(z)f*;*hnmop(myg!(!b7G*)(f!!(i*(nmmm" [.s4 5 31 2 []]
def Pt:=U "g+(+(,,)((!Zom+)(i,("
def aw9:=U "g40()hos(p(.*+)/(*f2@*`*2(l)l(j6,4)b0,(G*8)4*1o>(?*(>+(G*6,:)bT,()i.(mq)22)f3((z(mmml?l>l:l2t"
def abG:=U "g?/<*`*>(z(nm"
def abH:=aZ "9(@*hg!),(*()b5*()(y`*!(i*()/)*(),)(+(z+xrq(mxmmm" aw9 abG [.kc 3 [.str [],.aS 2]]
def JM:List bo:=[.b 2 2]
def axa:=U "g40()hos(p(.++)/(+f2b/*`+2(l)l(j!4)3)/(*?*(>+(G*f9!(i,(mq)20)f1((z(mmml=l<l;l8l0t"
def abI:=U "g=!:f<!(z(nm"
def abJ:=aZ "9(;*hg!),(/(*bCG*(f!!(i*()/**(),)(+(z+xrq(mxmmm" axa abI
def abL:=U "g)9)g++(hg.),(*()1nx(:(((e(/1*e)1on(=*(i/)f2+,hnmop(mg7)5(*()1oo(f+((5+(5,)y`,7)f6((i!(/:*1op(((e((9e)((d()?)d)*()d*,)(d+)?)d,*()d!H(*(e07.(=1(i4)fE+!hnmop(m/G*1S(D(,l*l)jfH++hnmop(m(F((d((Ld)((d()P*d)*()d*:(d!7+(d.((e((Le):(e*((d()P+d)*()d*:(e.7+(d6=/(77(i9)fO+.hnmop(mfO+(hnmmmmmmm" [.alloc 5 [.str [],.int .i64 0,.bool false,.bool false]]
def axb:=U "g90()hos*p(.)+)*()f5((l)l(j(51oY(((d((<d)(9d*<or)(d+:(7,(i/)!A(>?)(>*(1)fE!(i+(op,mmq+27)f8((z(mmml#lGlDlBl>l7l!t"
def abN:=U "g#2?)f@((z("
def axc:=aZ "g20()hos(p(.*+)/(*f0@*`*0(l)l(j/0*yg7,)(+(z+xrq*mmq)xmmml9l7l4l2l.l*l)l(l]lgt" axb abN [.eP (some 15) 156 [.c (.aS 1),.t 14]]
def abO:=U "gJ!Gf#!(z(nm"
def abP:=aZ "g);)hG1)hg/(/,)(+(hxrq(mxmmm" axc abO
def axd:=U "g80()hos(p(.++)/(+f5b/*`+5(l)l(j)5(*()((e()8)e))((e**()e+ygB=,(i/)!@)>)/(*?*(>+(G*fE!(i,(!D)C)/(*?*(>+(G*f#!(i,(p2mmq)2=)f>((z(mmmlKlLlMlHlGlEl=l3lnRlnSlnTlnUln[t" [.bin 26 0 .eql (.t 25) (.c (.str [100,105,115,116,105,110,99,116]))]
def axe:=U "gT0()hos*p(.)+)*()fT((l)l(j(R(T<or)(:(i+)fM3hnmop(mmq+2/)f0((z(mmmlKlLlMlNlOlQlTlYlZl[l$lAl/l)t"
def abR:=U "g)Bhnm"
def abS:=aZ "gN(J1oA(f#!(l)l(j(N1oA(,)(+(z+xrq*mxmm" axe abR
def abT:=aZ "9(3hg1)0(/(*bCG*(f1!(i*(f0GG*h)3**(),)(+(z+xrq(mxmmmm" axd abS
def axf:=U "g>0()hos*p(.++)/(+f:b/*`+:(l)l(j(>);))((*()bW)+(i+(mq+2/)f0((z(mmmlFlDlAl?l:l/t"
def abV:=U "gF2;)f<((z("
def axg:=aZ "g30()hos(p(.++)/(+f1]*+`+1(l)l(j(3)2()((*()bW)+(i+()5**(),)(+(z+xrq*mmmq)xmmml>l<l9l7l2l*l)l(lbt" axf abV
def abW:=U "gG(Dyz((ELos(fH!(l)l(jnmm" [.qd [1] none (.t 32) (.c (.str [100,105,115,116,105,110,99,116]))]
def abX:=aZ "g);)hg/Wf!((z((0,)(+(hxrq(mxmmm" axg abW
def axh:=U "g>0()hos*p(.++)/(+f:b/*`+:(l)l(j):))((*()yi*(gE(B)A()((*())B))((*())E(*()yyi0nOop1mmq+gO29)f:((z(mmmlKlMl#lDl>l9l3t" [.bin 29 0 .neq (.t 28) (.c (.str [100,105,115,116,105,110,99,116])),.build 39 [.str [],.str [],.bool false] [(0,1,.t 33),(1,1,.t 36),(2,1,.t 38)],.qc [1,1,2] (.t 30) (.t 39) (.c (.bool true))]
def abZ:=U "gP2E)fF((z("
def axi:=aZ "g30()hos(p(.++)/(+f1]*+`+1(l)l(j)1()((*()yi*(s)op]mg:)5**(),)(+(z+xrq*mmmq)xmmml>l<l9l7l2l,l*l)l(lblht" axh abZ [.bin 18 0 .eql (.t 17) (.c (.str [100,105,115,116,105,110,99,116]))]
def ab0:=U "gQ(NLou(b4ot(ovfM!(i*(nm"
def ab1:=aZ "g);+hg/Wf!((z((0,)(+(hxrq(mxmmm" axi ab0
def ab3:=U "9(+(h))**()z)f*+)hnmop(mf*+(hnmmm"
def axj:=U "g00()hos(p(()f!((z((1(3(/.*)(/(*Y,(i!)(3f5((z(nmop)mmq)21)f2((z(mmml6l5l1l*t"
def ab5:=U "g+Qhnm"
def ab6:=aZ "g++(hg!(!,)(+(z*xrq(mxmm" axj ab5
def ab8:=U "g)9)3h))(*()*,)M()(f,((i+(nmm"
def axk:=U "g;0()hos(p(().*,*/(*f:@*f;(*`*:(i*((;D((z)(A$ox(Tl)l(jop*m(C/?*FoH)(i*(mmq)23)f4((z(mmmlFlDlClBl:l3l.t"
def aca:=U "gG(G$ox(Ql)l(j"
def acb:=aZ "g*9)hg!(!)+(*()Fow*(i+().)*(),)(C((i+)nop(m(5$ox(Pl)l(j)4)*(),)(+(z+xrq(mxmmmmm" axk aca
def ace:=U "yhg*(*A,(6,()4,()yg/(/A,(6,()4,(),)(yf2(Xi1Xnmm" [.hV 2 (.c (.str [])),.s6 7 (.t 6),.s7 13 5 (.t 7) (.t 12)]
def acg:=U "g*9*h**)((e(/**e)1S(e*D(,=+(`)0(i!(4,/)8+/*1nn(8+1*bU)+)(i+(mm"
def O1:=U "g3(,(3,)(0*(i+)os(p(mg9!3(9(4.))(*()yg??*(b7o=*.(f;!(i/(q)f1(:f021)f:(0l1l0jmml=l<l9l8l7l6l2lelilnTlnZlnplnyt" [.build 23 [.str [],.int .i64 0] [(0,1,.t 22)]]
def O2:=U "gV(V(Q,)(0*(i+)os.p(mg$(Q(V.*)(6,((4,()(K(T.+)(6+((4+()M(!(((d((Qd)(Vd*.*)(d+6,()d,4,()d!(Ud.0)(7/(i;)(Q(V(U.**))()`)(*i,(fSBhmop!mq/fB(VfA2B)fV(AlBlAjmmlOlPlRlZlelil#lCl!lnyt"
def wJ:=U "gnu(U(L,)(S*(i+)fO;*fP3hnmop(m"
def wK:=U "gF(=2()f?((l)l(j"
def O3:=cn "gB(9(C,)(0*(i+)os,p(mgH(B(#(A.+)()()*()Fnr!(fE((i.((K(G.+)()(**()i,)(J2()fU((l)l(jop*mfV+(hxrq.mxmmmq!xmmlOlPlRlUlVlGl<l8l*lnZlnplnyt" O2 wJ wK
def O4:=cU "gA(9hos*p(mf:3hf9+(hxrq,mmq+ml>l=l;l9l8l7l3l(lilnTlnZlnplnyt" O3
def wL:=U "gny!QfO!(fPBz(uQo=*nm"
def wM:=aZ "g/Bhxrq*mxm" O4 wL
def yr:=aZ "g+;*3h;*h+(hxrq(mxmmm" O1 wM
def O5:=U "gf(R(N,)(0*(((d((Nd)(Rd*.+)(d+8+(+d,8)Q+d!<oy)(7.(i3)os,p(m(R2()fR((l)l(jq!mlMlSlWljl6l*lo!t"
def yu:=U "gnt(R(N,)(0*(((d((Nd)(Rd*.+)(d+8+(+d,8)Q+d!ygo,7.(i3)s+op(mfSGob+h!S(N(R^+)(>+(ob+fS!(i,(!S/Q+?+(>*(ob+fS!(i+(!S(N(R_+)(>+(ob+fN!(i,(mmmm" [.ur 87 false [1,1,2] (.t 85) (.t 86)]
def yv:=U "gG(B2()fD((l)l(j"
def O6:=cn "g6(1(7(4.+)()(**(),)(0.(((d((?d)(<d*.+)(d+)((d,)((d!*()d.ygF7/(i8)os*p(mg#(#(F.+)(6+((6+((4+()(K(O.+)(6+(*4+()(P.+)(6+()6+((4+()(K(O.+)(6+(*4+()(P.+)(6+((4+()yfQbSa)+Qnci@ncgc)Q)*()yl)l(js+opnfmfR+(hxrq,xmmmmq+xmmlMlQlRlSlWlFlnflnrlo!t" O5 yu yv [.bin 30 0 .neq (.t 29) (.c (.str [100,105,115,116,105,110,99,116])),.build 59 [.str [],.str [],.bool false] [(0,1,.t 39),(1,1,.t 49),(2,1,.t 58)],.bin 62 0 .eql (.t 61) (.c (.str [100,105,115,116,105,110,99,116]))]
def Af:=U "g4(02()f2((l)l(j"
def T7:=aZ "g0(,(1,)(0*(i+)os(p(mf/+(hxrq*mq)xmml2l/l.l!l,l(ljlnflnrlo!t" O6 Af
def Ag:=U "go;!NfM!(z(nm"
def Ah:=aZ "g);+h;+h+(hxrq(mxmmm" T7 Ag
def T9:=U "g6(1(7(4.+)()(**(),)(0.(i/)os*p(mg@(@(=.+)()(**()(@.+)()())((*()fD((i1((Dyz(gL(#(G<p()(fN!(i*(op+mmq+f8(Jf728)fJ(7l8l7jmmlMl#lCl9l+t" [.bin 36 0 .neq (.t 35) (.c (.str [100,105,115,116,105,110,99,116]))]
def Aj:=U "g4(02()f2((l)l(j"
def VX:=aZ "g0(,(1,)(0*(i+)os(p(mf/+(hxrq*mq)xmml2l/l.l(lalnLt" T9 Aj
def Ak:=U "gO!NfM!(z(nm"
def Cr:=aZ "g);)hg.(.1oz(f!!(l)l(jf,+(hxrq(mxmmm" VX Ak
def aci:=U "g++(h(,(,0)(l*l)jf+Qhnmop(m(/(/S)(l*l)jf.+)hnmop(mf.+(hnmmmm"
def acj:=U "9(+(h)))*(),)(D((i+)f,++hnmop(m)!(*()1p)(l*l)jf/+(hnmop(m)0(*()1p*(l*l)jf2+*hnmop(mf2+)hnmmmmm"
def ack:=U "g)+(hg!(!1p+(f*((5*(5+)f.()f!((i!((.f0((z(nmmm"
def acm:=U "g++(h(,(,0)(l*l)jf+Qhnmop(m(/(/S)(l*l)jf.+)hnmop(mf.+(hnmmmm"
def axl:=U "g.()(/,)(0*(((d((.d)(3d*,)(d+0*(7,(i1)os(p(mg:(:(6.*)(8+(*(=(:.*)(8+(*<nq,(f=((i0((=#((z)(?fB((z(nmop)mmq)f5(Af425)fA(4l5l4jmmlBl@l6l)t"
def Pv:=U "gF(F,)((G,)(<oN*(fG((i,(nm"
def acn:=aZ "g++(h+(hxrq(mxmm" axl Pv
def aco:=U "9(3h))(*():(((d()!)d))((d**()d+yg27,(f1((i0(nmm" [.bin 10 0 .neq (.t 9) (.c (.str [100,105,115,116,105,110,99,116]))]
def axm:=U "g_(V)N)*(),)(0+(((d((U7)(i/)os(p(mgj6+N)4+()(V.*)(8+(*6+O)4+()(V.*)(8+(*(MPoT.)(f4((54(55)fM!)fU((i6(q)f8(Vf728)fV(7l8l7jmmlKlLlQlRlSlTl_lglAl9t"
def acq:=U "gnx(M(UfQ!)fR((l)l(jnm"
def JO:=aZ "g*9*9*g!;+3hg3)0)*(),)(C((((d()5(d)*()d*1p*(7+(i0)g=(;);(*()<oV*(f,((5,(5!)f;@*`*;)f:((i.((:h(B/=*/B*<N)(fB!+fA((i+(nmop,mbBoy+(G>)(oy+6+H(4+()8+#*b;*()))*(?+(>!(oy+fQ!(fJBi0(nmmmop=m)N(*())O(*()H(*(((e()N)e)*()e*,)(e+)O)e,*()e!,)(e.H(+(=/(i5)fQ;+fR3hnmop(mfUBhfV+(hxrq(mxmmmmm" axm acq
def acs:=U "9(3h)))*(),)(C((((d().(d)*()d*1p*(7+(f1((i0(nmm"
def axn:=U "g.(((/,)(0*(i+)os(p(mg4(4(/.+)()((*()(8M()(i.)(;(6.+)()()/(*`*<(f;Bi,(nmop!mq)f5(:f425)f:(4l5l4jmml;l6l!t"
def acv:=U "y`*Odg,3zdnm" [.build 25 [.str [],.aS 2] []]
def acw:=aZ "g+@*3h+(hxrq(mxmm" axn acv
def axo:=U "g<(7(=,((0*(i+)os(p(mgB(B(>K)(ygF<p,)(:(i!)fD3hnmop(mq)f/(Cf.2/)fC(.l/l.jmmlGlDl4l0l(t" [.q4 30 (.t 3) 3 2 none none]
def acy:=U "g+Bhnm"
def acz:=aZ "g*9)3hg!(!,((N()((e((1e),((e*D(8=+(((e((6e)b(((e*ye*g9<p,)(e,:(=!(i6)f83hnmop(mf7+(hxrq(mxmmm" axo acy [.q4 17 (.t 3) 3 2 none (some (.c (.int .i64 1)))]
def acA:=U "g)3hg!(!1p!(f*((5*(5+)f.()f!((l.k,((!f0((z(nmmm"
def acB:=U "g)3h(*yyyyg/<oW,(f.((i!(nmm" [.build 4 [.int .u8 0,.int .u8 0] [(0,1,.c (.int .u8 65)),(1,1,.c (.int .u8 90))],.build 5 [.int .u8 0,.int .u8 0] [(0,1,.c (.int .u8 97)),(1,1,.c (.int .u8 122))],.build 6 [.int .u8 0,.int .u8 0] [(0,1,.c (.int .u8 48)),(1,1,.c (.int .u8 57))],.build 7 [.int .u8 0,.int .u8 0,.int .u8 0,.int .u8 0,.int .u8 0,.int .u8 0] [(0,2,.t 4),(2,2,.t 5),(4,2,.t 6)]]
def acC:=U "g*9)3hg/(/A,(6,((4,()8+0*1nn(b3)*(*f/((5/(50)f3@*a)*3)f2((l3k1((2f5((z(nmmm"
def acE:=U "9(3h)))*(),)(C((((d().(d)*()d*1oY(7+(f1((i0(nmm"
def acG:=U "g,9*3hg1(1E()((*()(4b3))(*f.((5.(5/)f2@*`*2)f1((i0((1h/3*/6*<o8)(C((f8((i+(nmop,mm(>A,(6,((4,()(A8+>*bU)*)(i!((D(EE()()*()(H?)(b71)*(E/)()`)(*i1(fHBhnmmmmm"
def axp:=U "g8(4)8**(),)(0+(i,)os(p(mg?)>**()(=.+)()()/(*1p.(fA((i.((A#((z)(CfG((z(nmop)mm)H**()(G.+)()())((*()1p0(:(i0)fM+.hnmop(mmq)f<(Of;2<)fO(;l<l;jmmlKlMlNlPlHlBl=l2l(t"
def acI:=U "g)+(hnm"
def JP:=aZ "9(+(hg!),(/(*1p.(f!((i*((!#((z)(/f1((z(nmop)mm)2()((*()1p/(:(i,)f6+.hnmop(mf4+(hxrq(mxmmmm" axp acI
end AM
