/- The program's functions as code of the abstract machine. Conditions: none; definitions alone. -/
import Derived.Test.YtmmplkgkkkjojaaGreatDoorAm4
import Derived.Test.YtmmplkgkkkjojaaGreatDoorAm5
import Derived.Test.YtmmplkgkkkjojaaGreatDoorCode
set_option maxRecDepth 100000
namespace AM
open Go
def YE:=U "g?(:(@+((1*(i+)os(p(mgE(E(AJ)(yg#((e((Je)(Fe*J)(e+ygN:,(i1)fM,(fN0hnmop(m(Ob?2((K(PJ)(ygU$(K!(fO((i/(mq)f;(Pf:3;)fP(:l;l:jmmlMlNl@l<l0t" [.bin 33 0 .lss (.t 32) (.c (.int .u8 48)),.bin 38 0 .gtr (.t 37) (.c (.int .u8 57)),.bin 45 0 .sub (.t 44) (.c (.int .u8 48))]
def Jk:=U "gW(O(OyfM()fN(nZi)nZnm" [.bin 50 0 .leq (.t 49) (.c (.int .i64 9999))]
def ac8:=aZ "g),(0hg!(!+((N()((e((1e)+((e*E(,:+(((e((6e)[((e*b6(Xe+((d((:d)+((d*E()e/;+(:0(i9)f=,(f<0hnmop(mf;,(hf:,(hxrq(mxmmmm" YE Jk
def al2:=U "g01()hos(p(()f!((z((1(3(//,)(.(,],(i!)(3f5((z(nmop)mmq)31)f2((z(mmml6l5l1l*t"
def YF:=U "g+Uhnm"
def ac9:=aZ "g+,(hg!(!+)(,(z*xrq(mxmm" al2 YF
def PA:=U "g)9)0h))(*()*,)Q()(f,((i+(nmm"
def ade:List bo:=[.t 3]
def adm:=U "g)<)h(*bMpE)(f*!(l)l(jnmm"
def al3:=U "g01()hos(p(()f!((z((1(3(//*)(.(*],(i!)(3f5((z(nmop)mmq)31)f2((z(mmml6l5l1l*t"
def YG:=U "g+Uhnm"
def adq:=aZ "g+,(hg!(!+)(,(z*xrq(mxmm" al3 YG
def ads:=U "g)9)0h))(*()*,)Q()(f,((i+(nmm"
def al8:=U "g01()hos(p(()f!((z((1(3(//*)(.(*],(i!)(3f5((z(nmop)mmq)31)f2((z(mmml6l5l1l*t"
def YH:=U "g+Uhnm"
def adu:=aZ "g+,(hg!(!+)(,(z*xrq(mxmm" al8 YH
def al9:=U "g;1()hos(p(()/*,*.(*f:B*f;(*`*:(i*((;E((z)(AYpG(Tl)l(jop*m(C.?*Fov)(i*(mmq)33)f4((z(mmmlFlDlClBl:l3l.t"
def YI:=U "gG(GYpG(Ql)l(j"
def YJ:=aZ "g*9)hg!(!)+(*()FpF*(i+().)*()+)(G((i+)nop(m(5YpG(Pl)l(j)4)*()+)(,(z+xrq(mxmmmmm" al9 YI
def adw:=U "yhg*(*>,(5,()2,()yg/(/>,(5,()2,()+)(yf2(Xi1Xnmm" [.hV 2 (.c (.str [])),.s6 7 (.t 6),.s7 13 5 (.t 7) (.t 12)]
def amc:=U "g71()hos(p(/++).(+f1b)*`+1(l)l(j.1+4pH(z)b:6g+.4+?+(A*(g+bR:(i+(b:9g+.8+?+(A*(g+bR=(i+(p0mmq)35)f6((z(mmmlElDlCl<l;l:l5l1t"
def YQ:=U "gEPygGS(y`)>(i*(yhy`)=lzlg#*>)yl(lnKjmmm" [.build 31 [.ha,.aS 1] [(0,1,.t 30)],.kc 10 [.fl],.kc 11 [.k4],.pq 33 199 [.t 6,.t 7,.t 3,.t 10,.t 5,.t 4,.t 11],.lY (some 35) (.t 34) [.c (.int .i64 0)]]
def ady:=aZ "g*S*9*S*hbG+bG+hg3)/**()+)(,(z+xrq(mxmmm" amc YQ
def Ct:=U "g*9*h**)((e(.**e)4o>(e*E(,:+(`)0(i!(2,/)8+/*4oK(8+1*bO)+)(i+(mm"
def Cw:=U "g)<*h(*bC(z)f*<*hnmop(myg!(!ZA*)(f!!(i*(nmmm" [.s4 5 25 2 []]
def Cz:=U "g+(+(,+)((!WpN+)(i,("
def amd:=U "g41()hos(p(/*+).(*f2B*`*2(l)l(j5,4)b+,(A*8)4*4p)(?*(A+(A*5,:)bQ,()i.(mq)32)f3((z(mmml?l>l:l2t"
def YT:=U "g?.<*`*>(z(nm"
def adA:=aZ "9(B*hg!),(*()b=*()(y`*!(i*()/)*()+)(,(z+xrq(mxmmm" amd YT [.kc 3 [.str [],.aS 2]]
def adC:=U "9(yhg,)+)*()+)(E((i+))/)*()+)()2(*()y`,3Yi,Ynmop!mg7)6(*()4ok(f+((6+(6,)f9()f8((i!((8h(:y`,<bl(lbjnmop)mmg?)>(*()4o@(l*l)j)A(*()y`,Bhi)hnmop*mgE)D(*()y`,Eki)knmmmmm" [.alloc 2 [.int .i64 0,.int .i64 0,.int .i64 0,.str []],.build 14 [.int .i64 0,.int .i64 0,.int .i64 0,.str []] [(0,1,.c (.int .i64 3)),(2,1,.t 11),(3,1,.t 13)],.build 23 [.int .i64 0,.int .i64 0,.int .i64 0,.str []] [(1,1,.t 22)],.build 29 [.int .i64 0,.int .i64 0,.int .i64 0,.str []] [(0,1,.c (.int .i64 2)),(3,1,.t 28)],.build 32 [.int .i64 0,.int .i64 0,.int .i64 0,.str []] [(0,1,.c (.int .i64 1)),(3,1,.t 31)]]
def CJ:List bo:=[.b 2 4]
def adE:=U "g+,(h(,(,=pO)(f+((i*(nmm"
def adG:=U "g)<)h(*bC(z)f*<)hnmop(myg!(!Z1))(f!!(i*(nmmm" [.s4 5 9 1 []]
def adI:=U "9(0h)))*()+)(G((((d().(d)*()d*4o@(;+(f1((i0(nmm"
def FJ:=U "g+,(0h(!(!yg06((6))f.()f!((i,(nmm" [.iu (some 8) 206 [.t 6,.t 7,.f 207]]
def adK:=U "g)9)9)0h)*(*())+(*()Q(*(((d()0)d)*()d*)1)d+*()d,yg7;!(f4((i3(nmm" [.iu (some 15) 208 [.t 12,.t 14,.f 173]]
def PF:=U "g,9*<+hg1(1(1=p.)(f+((6+(6,)f/()f.((i.((6CpT((1(88+5*4p1(b<*()*)*(?+(WpS.!(f9!(i0(nu9p>+mmm"
def axB:=U "g41()hos(p(/*+).(*f2B*`*2(l)l(j5,4)b+,(A*8)4*4p1(?*(A+(A*5,:)bQ,()i.(mq)32)f3((z(mmml?l>l:l2t"
def adN:=U "g?.<*`*>(z(nm"
def adQ:=aZ "9(B*hg!),(*()b=*()(y`*!(i*()/)*()+)(,(z+xrq(mxmmm" axB adN [.kc 3 [.str [],.aS 2]]
def adU:=U "g)0h(*b((i((d((!d)_(o/;*(f.((i!(nmm"
def adX:=U "g)0h(*b((o6((d((!d)_(oO;*(f.((i!(nmm"
def ad0:=U "g)0h(*b((X((d((!d)_(a;*(f.((i!(nmm"
def ad2:=U "9(0h)))*()+)(G((((d().(d)*()d*4p7(d+((e()2(e)*()e*4o^(d/:+(;0(f6((i5(nmm"
def ad5:=U "9(0h)))*()+)(G((((d().(d)*()d*4oX(;+(f1((i0(nmm"
def ame:=U "gH1()hos(p(()fG((z((J(HJ)(4p3(7(((d((Kd)(Nd*J)(d+4p4(d,7(;!(((d((Kd)(Nd*J)(d+yg[;,(i9)fM0hnmop(mmq)3<)f=((z(mmmlMlNl@l<l)t" [.bin 51 0 .neq (.t 50) (.c (.int .u8 45))]
def YU:=U "g)Dhnm"
def ad7:=aZ "g)0hg+(++((N()((e((/e)+((e*E(8:+(((e((4e)[((e*4p3(e+7(:,(((e((:e)yg<:*(((e((>e)yg@:*(((e((Be)ygD:*(iA)fC0hnmop(m(E+((,(z*xrq(mxmmm" ame YU [.bin 20 0 .eql (.t 19) (.c (.str [105,102])),.bin 24 0 .eql (.t 23) (.c (.str [97,110,100])),.bin 28 0 .eql (.t 27) (.c (.str [110,111,116]))]
def YV:=U "g+,(b8h(!CpY(l)l(j(/(0@()()*()(3yg6@.)()`)(*i0((7+((f6((f5b8l)l(jnmmmm" [.r7 14 5 1 true (.t 12) (.t 13)]
def aet:=U "g+b8h(,CpY(l)l(j(.(/@()()*()(2?)(Z!)*(@/)()`)(*i1(f4b8hnmmmm"
def aev:=U "9(0h))(*()7(((d()!)d))((d**()d+yg2;,(f1((i0(nmm" [.bin 10 0 .neq (.t 9) (.c (.str [100,105,115,116,105,110,99,116]))]
def amf:=U "g<1()hos(p(/++).(+f5b)*`+5(l)l(j.<).6+*=)WpJ*)(7(i,)nop(mmq)30)f1((z(mmmlElDlCl>l;l:l8l4l0l)ln$ln]ln^ln_lnit"
def YX:=U "gE2,@)2,B)5+A(8+(*b1pK*(],(i!(nm"
def amn:=U "g^1()hos*p(/*+).(*fXB*`*X(l)l(j2,O)2,L)(K/+)(5+()8+(*8)X*WpL.)(i/)*R)(K3()]*(i+(op,m*O)(VFpM)(i*(mmq+3:)f;((z(mmmlMlNlPlQlUlXl$l]l^l_l`lgl:l0t"
def YY:=cU "gK*G)@()()*()+)(fE((i,(5,N(2,()>,(5,()2,()2,L)(K/+)(5+()5+((2+()yg$+)(,(i5+xrq*mm" amn [.look [1] 52 (.t 45) (.t 51) (.aS 2) false]
def aew:=cn "g5(5*5)+)(Q(*(i+)*7)+)(,(hxrq(mxmop+mxm" amf YX YY
def aez:=U "g*bD*9*g!0hg0(.)!).(*b1pK*(f!B*`*!(i+()!(*()yg7((d()1)d)*()d*+)(d+G(*;,(i0))6)2*()b.*((8+(*):)2*()b.*()8+(*=oN,(H((f?((i1((?)D(*()#+*(fE((i+(nmmop6m)H(2*()8)F*FpZ)(7(5+O(2+()Q+*(fQ((i/(nmmmm" [.bin 15 0 .eql (.t 14) (.c (.str [100,105,115,116,105,110,99,116]))]
def axS:=U "gO1()hos(p(()f#((z()J)2*()(S(K5+N)2+()(S/*)(8+(*b1pK!(/*0/a,*()i2(mq)35)f6((z(mmmlLlPlQlSlUlHlBl5t"
def aeB:=U "g].R*`*O(z(ncO)A*m"
def aeC:=aZ "g*9)B*hg0.!*4p[(z)g3(3>,(5,((2,()5+4(2+()b!)*(*f/((6/(60)f7B*a)*7)f6((i1((6h.8*`*:(z(nc:)A*mop)mm.;*`*;(z(nc;)A*mmop5m)<)*()+)(G((i+).@*`*@(z(nc@)A*mop)m5+A(2+()5+C)2+()+)(ygJb>*(),))(fDB*a)*D(i.()H)*()+)(,(l+l*jxrq(mxmmmmm" axS aeB [.s5 34 25 [.str [],.aS 2] (.t 33)]
def axT:=U "gH1()hos(p(()fC((z((J5+G)2+()(F/*)(8+(*5+P)2+()(R/*)(8+(*WpL2!(7(i4)fQ0hnmop(mmq)37)f8((z(mmmlLlMlQlRlTl<l7l)t"
def aeE:=U "g!Dhnm"
def aeF:=aZ "g+9*9*0hg/.+*4p[(z)(1).(*()./*Wp$+)(f0((i,(nmop!m)2(*())3(*()#(*(((e()8)e)*()e*+)(e+):)e,*()e!+)(e.#(+(:/(i5)f>0hnmop(m)@)*()+)(,(l+l*jxrq(mxmmmm" axT aeE
def axU:=U "g51()hos(p(/)+)*()f3((l)l(j(8@()((*()(7yi,(mq)30)f1((z(mmml9l0t" [.qd [1] none (.t 20) (.t 21)]
def aeH:=U "g>(>(?@()()*()(Bb7))(@.)()`)(*i0("
def aeI:=aZ "g!(!@()()*()(0bH))(+)(,(i/+xrq(mxm" axU aeH
def amo:=U "g2(*(2b5)(l*l)jos(p(m(5(/(/(6bLp]+*)(i,((2f4((z((3(6K)(f6((i*(mmq)ml5l1lilnKln^t"
def amp:=U "gH(@(Hb5)(l*l)jos,p(m(K(E(F(HK)((H(MXp^.!*)(i/((SfR((z((S(Qb?*(K*(fS((i+(mmq!mlTlXl:l5ln^t"
def YZ:=U "gX(R(QK)(fT((i*((T(L1)(l*l)j(K(R(T(L(MXp^,+*)(i!(op.mm(QyfQ(nfl(lnfjm" [.bin 62 0 .mul (.t 61) (.c (.int .i64 2))]
def amq:=aZ "gC(=(C1)(l*l)jos*p(m(@b?*(fA,(f@((l)l(jxrq,xmmq+mlAl@l?l;l*lnKln^t" amp YZ
def Ze:=cU "g>(>(8(?(?bLp]+*)(i,(xrq*m" amq
def Jl:=aZ "g!,<hg1(+f+,(f*((z(xrq(xmmm" amo Ze
def Zj:=U "g+,(h(,(,yf*(Ri)Rnmm" [.uu 7 221 (.t 5) (.t 6)]
def amr:=U "g6(!(!1)(l*l)jos(p(m(0(0K)(b0(b4()$(f4((i!((=(@(6/+)(.(+(C^!)(N((i/)(<3()f@((l)l(j(>f@((z(p+mmq)mlDlCl?l9l+t"
def Zk:=U "gJ(A(B(D1)(((d((Md)(Kd*(Hd+/+)(d,.(+d!(Ld.^!)(d/G((;0(fQ(5fR((i5(nm"
def Zn:=aZ "g!,(0hg3(3+)(f!((l)l(j(!f!,(f,((z(xrq(xmmmm" amr Zk
def aeL:=U "g)9)g+,(h)*(*()(!=p+)(f,((i+(nmm"
def ams:=U "g91()hos(p(()/*,*.(*f5B*f6(*`*5(i*((<(7/*)(.(*f8B*`*8(i+((?.:*.:*^*)(7(i,)f@0hnmop(mmmq)35)f6((z(mmmlGlAl@l?l>l9l5l)t"
def Zx:=U "g!Dhnm"
def aeN:=aZ "g!0hg1(1+)((2+)(#(*(i,)f00hnmop(m(6+)(,(hxrq(mxmmm" ams Zx
def Jn:=U "g)<+h(*bC(z)f*<+hnmop(myg!(!Zp>+)(f!!(i*(nmmm" [.s4 5 188 3 []]
def Zz:=U "g)()@()((*()yi+(g.(.(/yyyg3@,)((`)(*i.((5@()((*()(9#,)(i!)wop(mp5m" [.bin 6 2 .eql (.t 5) (.c .fl),.r4 9 (.t 8) 217 2,.s8 10 225 (.t 9),.r4 11 (.t 10) 217 2]
def ZP:=U "g*9)0hg/(/>,(5,((2,()8+0*4oK(b!)*(*f/((6/(60)f3B*a)*3)f2((l3k1((2f5((z(nmmm"
def aeP:=U "9(0h)))*()+)(G((((d().(d)*()d*4o@(;+(f1((i0(nmm"
def ZX:=U "g,9*0hg1(1@()((*()(4b!))(*f.((6.(6/)f2B*`*2)f1((i0((1h.3*.6*=oN)(G((f8((i+(nmop,mm(>>,(5,((2,()(A8+>*bO)*)(i!((D(E@()()*()(H?)(Z1)*(@/)()`)(*i1(fHDhnmmmmm"
def apH:=U "g9(0(9V)(((d((:d)(>d*(6d+/*)(d,8,(*d!(Bd.(:d/M()d0/**(d18,(*d2^1!(d3N((;4(i8)os*p(mgL(K(D(K(FM()(K(#M()/**(8,(*(K(T/*)(8,(*/*54a,*(!/*42a,*(*i7(q+f9(Tf8M9)fT(8l9l8jmmlYl:t"
def ZZ:=U "g6(.3()f0((l)l(j"
def apI:=aZ "g3(+(21)(l*l)jos(p(mg8(0f0((z(xrq*mq)xmml0l+lmt" apH ZZ
def Jo:=cU "g1(03()f+((l)l(jxrq(m" apI
def apJ:=U "gF(<(<1)(l*l)jos(p(m(?(?K)(b0(b4()$(fC((i!((O(K(E/*)(8,(*(K(L/*)(8,(*^0,(N((i2)(W3()fU((l)l(j(WfV((z(p+mmq)mlMlNlWlXlYlZl[l$l]lJl#lHlGlFlElAl<l+lnblnxlo*lo<loCloalollp!lp;lp#lpWt"
def apK:=U "g^(X(UM()1*(i+)os*p(mgd(K(X(K(X3()(K(X3()/**(8,(*(K(X/*)(8,(*/*54a,*(!/*42a,*(*i7(q+f9(Xf839)fX(8l9l8jmmlLlMlNlOlVlWlYlZl[l$l]l^l_l`lalblclglllBl:lnxlo*lo<loCloalollp!lp;lp#lpWt"
def eE:=cU "g](LfX((z(xrq*mnm" apK
def apL:=U "gnz(Y(Z1)(l*l)jos,p(m(Y(ZK)(b0(b4()$(f[((i!((O(K(M/*)(8,(*(K([/*)(8,(*^0,(N((7(i3)([3()fY((l)l(j([fZ((z(p+mmq!mlLlNlUlVlWlXl[l$l]l^l_l`lalblclglllnZlnblBl=l+loCloalollp!lp;lp#lpWt"
def apM:=U "go@($(YV)(l*l)jos.p(mgoE(K($(K($M()(K($M()/**(8,(*(K($/*)(8,(*/*54a,*(!/*42a,*(*i7(q/f9($f8M9)f$(8l9l8jmmlLlMlNlOlUlVlWlXlZl[l]l^l_l`lalblclglllnZlnblnxlo*lAl:loalollp!lp;lp#lpWt"
def eT:=cU "go?(Mf$((z(xrq.mnm" apM
def apN:=U "goi(_(`1)(l*l)jos0p(m(_(`K)(b0(b4()$(fb((i!((O(K(a(bO)(/*+(8,(*(K(b/*)(8,(*^2,(N((7(i5)(b3()f_((l)l(j(bf`((z(p+mmq1mlUlVlWlXlYlZl[l$lblclglllnZlnblnxlo*lo<loClJl?l+lp;lp#lpWt"
def dR:=U "gp0(^(_O)(fc((i*((_(M1)(((d((Md)(cd*1)(;+(i/)(K(_(M(c(OXpd,+*)(i!(op.m(L(_1)(((d((_d)(]d*1)(;+(i/)(K(L(_(](OXp^,+*)(i!(op.m(](c1)(((d((cd)(Nd*1)(;+(i/)(K(](c(N(OXp^,+*)(i!(op.mmmm"
def dh:=aZ "goU(L(NK)(b0(b4()$(f]((i!((](MK)(f^((i*(f_,(f`,(h(M(]V)(l*l)j(^(NO)(f_((i*((]f`((z(m(Lf_((z((Mf`((z(mp.m(^M()fa((l)l(jxrq0xmmmmmm" apN dR
def dt:=cn "gnt(N(MO)(G()i+)(LfY((z((MfZ((z(xrq,xmmmop*mxm" apL eT dh
def Z1:=cn "g@(>(@O)(G()i+)(Bf;((z((Bf;((z(xrq(xmmmop*mxm" apJ eE dt
def apO:=U "g9(/(/#()(l*l)jos(p(m(2(2V)(l*l)j(?(>(7O)((A(9(AXpf.+*)(i/((=(=O)(f@((i*(m(J(#(BO)((M(DK)((GO)((#(OXpf2/*)(i3((V(UO)(fV((i*(mpBmq)mlLlNlElBt"
def Z2:=U "gY(K(M(UO)((M(U(OXpf.+*)(i/("
def Z3:=aZ "g3(1(3O)(f,((i*((3(5O)(f.((i*(xrq(xmmm" apO Z2
def apP:=U "g2(((01)(l*l)jos(p(mg7(7(7(/K)((;(:(3K)((?(>(7K)(/*+(8,(*(E(E(=K)(/*+(8,(*/*;8a,*(//*85a,*(*i=(q)f?(Cf>3?)fC(>l?l>jmml#l@t"
def Z5:=cU "g1,(hxrq(m" apP
def apQ:=U "gN1()hos(p(/*+).(*fFB*`*F(l)l(j)H(*().H*Fny)(i+(mq)3/)f0((z(mmmlLlOlPlQlSlVl#lHlFlElAl9l5l/lnWlnXlnYlnZln`lnalnblnclnrt"
def apT:=U "gb1()hos,p(/)+)*()f[((l)l(j!Y(K([/+)(.(+?+(A!(e+fY!(i.(mq!32)f3((z(mmmlLlOlPlQlRlSlVlXl[l$l`lhlll#lHlGlFl;l2lnrt"
def Z7:=U "gm.T)(YFnz)(f$((i*(($H((z)($fO<*fP((z(nmop)mm"
def Z8:=U "gns3B)fC((z("
def apU:=cn "gY1()hos*p(/)+)*()fX!(l)l(j(X+)(b#(e+fY!(i*((X+)(,(hxrq,mxmmmq+xmmmlLlOlPlQlRlSlVlXlYl[l$l`lElAl>l=l<l;l0l*l)l(lnclnrt" apT Z7 Z8
def aac:=U "gnt)T(*()Co)(Co((fO!(fP,(i+(nm"
def aam:=aZ "gV(R+)(,(hxrq*mxm" apU aac
def aap:=aZ "g+<*,(hg9(94nu(f5((l)l(j(5H((z)(7f:<*f9((z(nmop)mmg?(?4nv(f*((6*(6+)f<!)f;((i,((;H((z)(=fB<*fA((z(nmop)m(E4nw(7(l*l)jfE<*fD,5hnmop(myyy`)@nKlmlnKjgK(J+)(,(hxrq(mxmmmmmmm" apQ aam [.iu (some 34) 80 [],.build 35 [.fl] [(0,1,.t 34)],.alloc 9 [.fl]]
def apV:=U "g31()hos(p(()/*,*.(*f2B*f3(*`*2(i*((4(4)4(2*())6)2*()4o((b>*()+))(/*/.a,*()i0(mq)35)f6((z(mmmlAl?l=l<l5t"
def aaA:=U "gA!>f@!(z(nm"
def aaB:=aZ "g)<*hg!(!+)(yf,!Si)Sg0(0+)(,(hxrq(mxmmm" apV aaA [.s5 8 25 [.str [],.aS 2] (.t 7)]
end AM
