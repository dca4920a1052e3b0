/- The program's functions as code of the abstract machine. Conditions: none; definitions alone. -/
import Derived.Test.YtmmplkgkkkjojaaGreatDoorAm4
import Derived.Test.YtmmplkgkkkjojaaGreatDoorAm5
import Derived.Test.YtmmplkgkkkjojaaGreatDoorCode
set_option maxRecDepth 100000
namespace AM
open Go
def aaX:=U "g?(:(@,((0*(i+)os(p(mgE(E(AN)(yg#((e((Je)(Fe*N)(e+ygN=,(i1)fM!(fN3hnmop(m(ObG2((K(PN)(ygU_(J!(fO((i/(mq)f;(Pf:1;)fP(:l;l:jmmlMlNl@l<l0t" [.bin 33 0 .lss (.t 32) (.c (.int .u8 48)),.bin 38 0 .gtr (.t 37) (.c (.int .u8 57)),.bin 45 0 .sub (.t 44) (.c (.int .u8 48))]
def Lw:=U "gW(O(OyfM()fN(nZi)nZnm" [.bin 50 0 .leq (.t 49) (.c (.int .i64 9999))]
def ac8:=aZ "g)!(3hg!(!,((R()((e((1e),((e*H(,=+(((e((6e)b8((e*b?(Xe+((d((:d),((d*H()e/8+(=0(i9)f=!(f<3hnmop(mf;!(hf:!(hxrq(mxmmmm" aaX Lw
def amq:=U "g00()hos(p(()f!((z((1(3(/.,)(/(,$,(i!)(3f5((z(nmop)mmq)11)f2((z(mmml6l5l1l*t"
def aa1:=U "g+Vhnm"
def ac9:=aZ "g+!(hg!(!,)(!(z*xrq(mxmm" amq aa1
def PA:=U "g):)3h))(*()*,)M()(f,((i+(nmm"
def ade:List bo:=[.t 3]
def adm:=U "g);)h(*bNpE)(f*+(l)l(jnmm"
def amr:=U "g00()hos(p(()f!((z((1(3(/.*)(/(*$,(i!)(3f5((z(nmop)mmq)11)f2((z(mmml6l5l1l*t"
def aa8:=U "g+Vhnm"
def adq:=aZ "g+!(hg!(!,)(!(z*xrq(mxmm" amr aa8
def ads:=U "g):)3h))(*()*,)M()(f,((i+(nmm"
def ams:=U "g00()hos(p(()f!((z((1(3(/.*)(/(*$,(i!)(3f5((z(nmop)mmq)11)f2((z(mmml6l5l1l*t"
def abb:=U "g+Vhnm"
def adu:=aZ "g+!(hg!(!,)(!(z*xrq(mxmm" ams abb
def apH:=U "g;0()hos(p(().*,*/(*f:D*f;(*`*:(i*((;H((z)(AYpG(Tl)l(jop*m(C/?*Cov)(i*(mmq)13)f4((z(mmmlFlDlClBl:l3l.t"
def abi:=U "gG(GYpG(Ql)l(j"
def abj:=aZ "g*:)hg!(!)+(*()CpF*(i+().)*(),)(E((i+)nop(m(5YpG(Pl)l(j)4)*(),)(!(z+xrq(mxmmmmm" apH abi
def adw:=U "yhg*(*>,(4,()2,()yg/(/>,(4,()2,(),)(yf2(Xi1Xnmm" [.hV 2 (.c (.str [])),.s6 7 (.t 6),.s7 13 5 (.t 7) (.t 12)]
def apI:=U "g70()hos(p(.++)/(+f1^*`+1(l)l(j/1+6pH(z)b76g+/4+A+(@*(g+bS:(i+(b79g+/8+A+(@*(g+bS=(i+(p0mmq)15)f6((z(mmmlElDlCl<l;l:l5l1t"
def abl:=U "gEQygGS(y`)>(i*(yhy`)=lzlg#*>)yl(lnKjmmm" [.build 31 [.ha,.aS 1] [(0,1,.t 30)],.kc 10 [.fl],.kc 11 [.k4],.pq 33 199 [.t 6,.t 7,.t 3,.t 10,.t 5,.t 4,.t 11],.lY (some 35) (.t 34) [.c (.int .i64 0)]]
def ady:=aZ "g*S*:*S*hbH+bH+hg3)/**(),)(!(z+xrq(mxmmm" apI abl
def Ct:=U "g*:*h**)((e(/**e)6o>(e*H(,=+(`)0(i!(2,/)9+/*6oK(9+1*bP)+)(i+(mm"
def Cw:=U "g);*h(*bD(z)f*;*hnmop(myg!(![A*)(f!+(i*(nmmm" [.s4 5 25 2 []]
def Cz:=U "g+(+(,,)((!UpN+)(i,("
def apJ:=U "g40()hos(p(.*+)/(*f2D*`*2(l)l(j4,4)b+,(A*9)4*6p)(A*(@+(A*4,:)bR,()i.(mq)12)f3((z(mmml?l>l:l2t"
def abm:=U "g?/<*`*>(z(nm"
def adA:=aZ ":(D*hg!),(*()b9*()(y`*!(i*()/)*(),)(!(z+xrq(mxmmm" apJ abm [.kc 3 [.str [],.aS 2]]
def adC:=U ":(yhg,)+)*(),)(H((i+))/)*(),)()2(*()y`,3Yi,Ynmop!mg7)6(*()6ok(f+((5+(5,)f9()f8((i!((8h(:y`,<bl(lbjnmop)mmg?)>(*()6o@(l*l)j)A(*()y`,Bhi)hnmop*mgE)D(*()y`,Eki)knmmmmm" [.alloc 2 [.int .i64 0,.int .i64 0,.int .i64 0,.str []],.build 14 [.int .i64 0,.int .i64 0,.int .i64 0,.str []] [(0,1,.c (.int .i64 3)),(2,1,.t 11),(3,1,.t 13)],.build 23 [.int .i64 0,.int .i64 0,.int .i64 0,.str []] [(1,1,.t 22)],.build 29 [.int .i64 0,.int .i64 0,.int .i64 0,.str []] [(0,1,.c (.int .i64 2)),(3,1,.t 28)],.build 32 [.int .i64 0,.int .i64 0,.int .i64 0,.str []] [(0,1,.c (.int .i64 1)),(3,1,.t 31)]]
def CJ:List bo:=[.b 2 4]
def adE:=U "g+!(h(,(,<pO)(f+((i*(nmm"
def adG:=U "g);)h(*bD(z)f*;)hnmop(myg!(![1))(f!+(i*(nmmm" [.s4 5 9 1 []]
def adI:=U ":(3h)))*(),)(E((((d().(d)*()d*6o@(8+(f1((i0(nmm"
def FJ:=U "g+!(3h(!(!yg05((5))f.()f!((i,(nmm" [.iu (some 8) 206 [.t 6,.t 7,.f 207]]
def adK:=U "g):):)3h)*(*())+(*()M(*(((d()0)d)*()d*)1)d+*()d,yg78!(f4((i3(nmm" [.iu (some 15) 208 [.t 12,.t 14,.f 173]]
def PF:=U "g,:*;+hg1(1(1<p.)(f+((5+(5,)f/()f.((i.((6?pT((1(89+5*6p1(bE*()*)*(A+(UpS.!(f9+(i0(nu9p>+mmm"
def axB:=U "g40()hos(p(.*+)/(*f2D*`*2(l)l(j4,4)b+,(A*9)4*6p1(A*(@+(A*4,:)bR,()i.(mq)12)f3((z(mmml?l>l:l2t"
def adN:=U "g?/<*`*>(z(nm"
def adQ:=aZ ":(D*hg!),(*()b9*()(y`*!(i*()/)*(),)(!(z+xrq(mxmmm" axB adN [.kc 3 [.str [],.aS 2]]
def abn:=U "g+!(b5h(!?pY(l)l(j(/(0B()()*()(3yg6B.)()`)(*i0((7,((f6((f5b5l)l(jnmmmm" [.r7 14 5 1 true (.t 12) (.t 13)]
def aet:=U "g+b5h(,?pY(l)l(j(.(/B()()*()(2A)([!)*(B/)()`)(*i1(f4b5hnmmmm"
def aev:=U ":(3h))(*()7(((d()!)d))((d**()d+yg28,(f1((i0(nmm" [.bin 10 0 .neq (.t 9) (.c (.str [100,105,115,116,105,110,99,116]))]
def apK:=U "g<0()hos(p(.++)/(+f5^*`+5(l)l(j/<)/6+*=)UpJ*)(7(i,)nop(mmq)10)f1((z(mmmlElDlCl>l;l:l8l4l0l)ln$ln]ln^ln_lnit"
def abp:=U "gE2,@)2,B)4+A(9+(*b1pK*($,(i!(nm"
def apL:=U "g^0()hos*p(.*+)/(*fXD*`*X(l)l(j2,O)2,L)(K.+)(4+()9+(*9)X*UpL.)(i/)*R)(K1()$*(i+(op,m*O)(VCpM)(i*(mmq+1:)f;((z(mmmlMlNlPlQlUlXl$l]l^l_l`lgl:l0t"
def abq:=cU "gK*G)B()()*(),)(fE((i,(4,N(2,()>,(4,()2,()2,L)(K.+)(4+()4+((2+()yg$,)(!(i5+xrq*mm" apL [.look [1] 52 (.t 45) (.t 51) (.aS 2) false]
def aew:=cn "g5(5*5),)(M(*(i+)*7),)(!(hxrq(mxmop+mxm" apK abp abq
def aez:=U "g*bF*:*g!3hg0(.)!)/(*b1pK*(f!D*`*!(i+()!(*()yg7((d()1)d)*()d*,)(d+E(*8,(i0))6)2*()b.*((9+(*):)2*()b.*()9+(*<oN,(F((f?((i1((?)D(*()#+*(fE((i+(nmmop6m)H(2*()9)F*CpZ)(7(4+O(2+()M+*(fQ((i/(nmmmm" [.bin 15 0 .eql (.t 14) (.c (.str [100,105,115,116,105,110,99,116]))]
def axS:=U "gO0()hos(p(()f#((z()J)2*()(S(K4+N)2+()(S.*)(9+(*b1pK!(.*0/a,*()i2(mq)15)f6((z(mmmlLlPlQlSlUlHlBl5t"
def aeB:=U "g]/R*`*O(z(ncO)A*m"
def aeC:=aZ "g*:)D*hg0/!*6p[(z)g3(3>,(4,((2,()4+4(2+()b!)*(*f/((5/(50)f7D*a)*7)f6((i1((6h/8*`*:(z(nc:)A*mop)mm/;*`*;(z(nc;)A*mmop5m)<)*(),)(E((i+)/@*`*@(z(nc@)A*mop)m4+A(2+()4+C)2+(),)(ygJb:*(),))(fDD*a)*D(i.()H)*(),)(!(l+l*jxrq(mxmmmmm" axS aeB [.s5 34 25 [.str [],.aS 2] (.t 33)]
def axT:=U "gH0()hos(p(()fC((z((J4+G)2+()(F.*)(9+(*4+P)2+()(R.*)(9+(*UpL2!(7(i4)fQ3hnmop(mmq)17)f8((z(mmmlLlMlQlRlTl<l7l)t"
def aeE:=U "g!Ghnm"
def aeF:=aZ "g+:*:*3hg//+*6p[(z)(1).(*()//*Up$+)(f0((i,(nmop!m)2(*())3(*()#(*(((e()8)e)*()e*,)(e+):)e,*()e!,)(e.#(+(=/(i5)f>3hnmop(m)@)*(),)(!(l+l*jxrq(mxmmmm" axT aeE
def axU:=U "g50()hos(p(.)+)*()f3((l)l(j(8B()((*()(7yi,(mq)10)f1((z(mmml9l0t" [.qd [1] none (.t 20) (.t 21)]
def aeH:=U "g>(>(?B()()*()(Bb)))(B.)()`)(*i0("
def aeI:=aZ "g!(!B()()*()(0b@))(,)(!(i/+xrq(mxm" axU aeH
def apM:=U "g2(*(2b4)(l*l)jos(p(m(5(/(/(6bMp]+*)(i,((2f4((z((3(6J)(f6((i*(mmq)ml5l1lilnKln^t"
def apO:=U "gH(@(Hb4)(l*l)jos,p(m(K(E(F(HJ)((H(MXp^.!*)(i/((SfR((z((S(QbG*(J*(fS((i+(mmq!mlTlXl:l5ln^t"
def abr:=U "gX(R(QJ)(fT((i*((T(L0)(l*l)j(K(R(T(L(MXp^,+*)(i!(op.mm(QyfQ(nfl(lnfjm" [.bin 62 0 .mul (.t 61) (.c (.int .i64 2))]
def apP:=aZ "gC(=(C0)(l*l)jos*p(m(@bG*(fA!(f@((l)l(jxrq,xmmq+mlAl@l?l;l*lnKln^t" apO abr
def abt:=cU "g>(>(8(?(?bMp]+*)(i,(xrq*m" apP
def Lx:=aZ "g!!<hg1(+f+!(f*((z(xrq(xmmm" apM abt
def abv:=U "g+!(h(,(,yf*(Ri)Rnmm" [.uu 7 221 (.t 5) (.t 6)]
def apQ:=U "g6(!(!0)(l*l)jos(p(m(0(0J)(b0(b3()_(f4((i!((=(@(6.+)(/(+(C]!)(R((i/)(<1()f@((l)l(j(>f@((z(p+mmq)mlDlCl?l9l+t"
def abw:=U "gJ(A(B(D0)(((d((Md)(Kd*(Hd+.+)(d,/(+d!(Ld.]!)(d/E((80(fQ(5fR((i5(nm"
def abx:=aZ "g!!(3hg3(3,)(f!((l)l(j(!f!!(f,((z(xrq(xmmmm" apQ abw
def aeL:=U "g):)g+!(h)*(*()(!<p+)(f,((i+(nmm"
def apT:=U "g90()hos(p(().*,*/(*f5D*f6(*`*5(i*((<(7.*)(/(*f8D*`*8(i+((?/:*/:*]*)(7(i,)f@3hnmop(mmmq)15)f6((z(mmmlGlAl@l?l>l9l5l)t"
def abz:=U "g!Ghnm"
def aeN:=aZ "g!3hg1(1,)((2,)(#(*(i,)f03hnmop(m(6,)(!(hxrq(mxmmm" apT abz
def LB:=U "g);+h(*bD(z)f*;+hnmop(myg!(![p>+)(f!+(i*(nmmm" [.s4 5 188 3 []]
def abN:=U "g)()B()((*()yi+(g.(.(/yyyg3B,)((`)(*i.((5B()((*()(9#,)(i!)wop(mp5m" [.bin 6 2 .eql (.t 5) (.c .fl),.r4 9 (.t 8) 217 2,.s8 10 225 (.t 9),.r4 11 (.t 10) 217 2]
def abR:=U "g*:)3hg/(/>,(4,((2,()9+0*6oK(b!)*(*f/((5/(50)f3D*a)*3)f2((l3k1((2f5((z(nmmm"
def aeP:=U ":(3h)))*(),)(E((((d().(d)*()d*6o@(8+(f1((i0(nmm"
def abT:=U "g,:*3hg1(1B()((*()(4b!))(*f.((5.(5/)f2D*`*2)f1((i0((1h/3*/6*<oN)(E((f8((i+(nmop,mm(>>,(4,((2,()(A9+>*bP)*)(i!((D(EB()()*()(HA)([1)*(B/)()`)(*i1(fHGhnmmmmm"
def apU:=U "g9(0(9Z)(((d((:d)(>d*(6d+.*)(d,9,(*d!(Bd.(:d/L()d0.**(d19,(*d2]1!(d3R((84(i8)os*p(mgL(K(D(K(FL()(K(#L().**(9,(*(K(T.*)(9,(*.*54a,*(!.*42a,*(*i7(q+f9(Tf8L9)fT(8l9l8jmmlYl:t"
def abV:=U "g6(.1()f0((l)l(j"
def apV:=aZ "g3(+(20)(l*l)jos(p(mg8(0f0((z(xrq*mq)xmml0l+lmt" apU abV
def LD:=cU "g1(01()f+((l)l(jxrq(m" apV
def apW:=U "gF(<(<0)(l*l)jos(p(m(?(?J)(b0(b3()_(fC((i!((O(K(E.*)(9,(*(K(L.*)(9,(*]0,(R((i2)(W1()fU((l)l(j(WfV((z(p+mmq)mlMlNlWlXlYlZl[l$l]lJl#lHlGlFlElAl<l+lnblnxlo*lo<loCloalollp!lp;lp#lpWt"
def apY:=U "g^(X(UL()0*(i+)os*p(mgd(K(X(K(X1()(K(X1().**(9,(*(K(X.*)(9,(*.*54a,*(!.*42a,*(*i7(q+f9(Xf819)fX(8l9l8jmmlLlMlNlOlVlWlYlZl[l$l]l^l_l`lalblclglllBl:lnxlo*lo<loCloalollp!lp;lp#lpWt"
def gA:=cU "g](LfX((z(xrq*mnm" apY
def apZ:=U "gnz(Y(Z0)(l*l)jos,p(m(Y(ZJ)(b0(b3()_(f[((i!((O(K(M.*)(9,(*(K([.*)(9,(*]0,(R((7(i3)([1()fY((l)l(j([fZ((z(p+mmq!mlLlNlUlVlWlXl[l$l]l^l_l`lalblclglllnZlnblBl=l+loCloalollp!lp;lp#lpWt"
def ap0:=U "go@($(YZ)(l*l)jos.p(mgoE(K($(K($L()(K($L().**(9,(*(K($.*)(9,(*.*54a,*(!.*42a,*(*i7(q/f9($f8L9)f$(8l9l8jmmlLlMlNlOlUlVlWlXlZl[l]l^l_l`lalblclglllnZlnblnxlo*lAl:loalollp!lp;lp#lpWt"
def gC:=cU "go?(Mf$((z(xrq.mnm" ap0
def ap1:=U "goi(_(`0)(l*l)jos0p(m(_(`J)(b0(b3()_(fb((i!((O(K(a(bP)(.*+(9,(*(K(b.*)(9,(*]2,(R((7(i5)(b1()f_((l)l(j(bf`((z(p+mmq1mlUlVlWlXlYlZl[l$lblclglllnZlnblnxlo*lo<loClJl?l+lp;lp#lpWt"
def gf:=U "gp0(^(_P)(fc((i*((_(M0)(((d((Md)(cd*0)(8+(i/)(K(_(M(c(OXpd,+*)(i!(op.m(L(_0)(((d((_d)(]d*0)(8+(i/)(K(L(_(](OXp^,+*)(i!(op.m(](c0)(((d((cd)(Nd*0)(8+(i/)(K(](c(N(OXp^,+*)(i!(op.mmmm"
def fg:=aZ "goU(L(NJ)(b0(b3()_(f]((i!((](MJ)(f^((i*(f_!(f`!(h(M(]Z)(l*l)j(^(NP)(f_((i*((]f`((z(m(Lf_((z((Mf`((z(mp.m(^L()fa((l)l(jxrq0xmmmmmm" ap1 gf
def fU:=cn "gnt(N(MP)(E()i+)(LfY((z((MfZ((z(xrq,xmmmop*mxm" apZ gC fg
def abX:=cn "g@(>(@P)(E()i+)(Bf;((z((Bf;((z(xrq(xmmmop*mxm" apW gA fU
def ap2:=U "g9(/(/#()(l*l)jos(p(m(2(2Z)(l*l)j(?(>(7P)((A(9(AXpf.+*)(i/((=(=P)(f@((i*(m(J(#(BP)((M(DJ)((GP)((#(OXpf2/*)(i3((V(UP)(fV((i*(mpBmq)mlLlNlElBt"
def abY:=U "gY(K(M(UP)((M(U(OXpf.+*)(i/("
def abZ:=aZ "g3(1(3P)(f,((i*((3(5P)(f.((i*(xrq(xmmm" ap2 abY
def ap3:=U "g2(((00)(l*l)jos(p(mg7(7(7(/J)((;(:(3J)((?(>(7J)(.*+(9,(*(E(E(=J)(.*+(9,(*.*;8a,*(/.*85a,*(*i=(q)f?(Cf>1?)fC(>l?l>jmml#l@t"
def ab1:=cU "g1!(hxrq(m" ap3
def ap4:=U "gN0()hos(p(.*+)/(*fFD*`*F(l)l(j)H(*()/H*Cny)(i+(mq)1/)f0((z(mmmlLlOlPlQlSlVl#lHlFlElAl9l5l/lnWlnXlnYlnZln`lnalnblnclnrt"
def ap5:=U "gb0()hos,p(.)+)*()f[((l)l(j+Y(K([.+)(/(+A+(@!(e+fY+(i.(mq!12)f3((z(mmmlLlOlPlQlRlSlVlXl[l$l`lhlll#lHlGlFl;l2lnrt"
def ab3:=U "gm/T)(YCnz)(f$((i*(($F((z)($fO;*fP((z(nmop)mm"
def ab4:=U "gns1B)fC((z("
def ap6:=cn "gY0()hos*p(.)+)*()fX+(l)l(j(X,)(bJ(e+fY+(i*((X,)(!(hxrq,mxmmmq+xmmmlLlOlPlQlRlSlVlXlYl[l$l`lElAl>l=l<l;l0l*l)l(lnclnrt" ap5 ab3 ab4
def ab5:=U "gnt)T(*()?o)(?o((fO+(fP!(i+(nm"
def aca:=aZ "gV(R,)(!(hxrq*mxm" ap6 ab5
def acA:=aZ "g+;*!(hg9(96nu(f5((l)l(j(5F((z)(7f:;*f9((z(nmop)mmg?(?6nv(f*((5*(5+)f<+)f;((i,((;F((z)(=fB;*fA((z(nmop)m(E6nw(7(l*l)jfE;*fD!5hnmop(myyy`)@nKlmlnKjgK(J,)(!(hxrq(mxmmmmmmm" ap4 aca [.iu (some 34) 80 [],.build 35 [.fl] [(0,1,.t 34)],.alloc 9 [.fl]]
def ap7:=U "g30()hos(p(().*,*/(*f2D*f3(*`*2(i*((4(4)4(2*())6)2*()6o((b:*()+))(.*/.a,*()i0(mq)15)f6((z(mmmlAl?l=l<l5t"
def acC:=U "gA+>f@+(z(nm"
def acD:=aZ "g);*hg!(!,)(yf,+Si)Sg0(0,)(!(hxrq(mxmmm" ap7 acC [.s5 8 25 [.str [],.aS 2] (.t 7)]
end AM
