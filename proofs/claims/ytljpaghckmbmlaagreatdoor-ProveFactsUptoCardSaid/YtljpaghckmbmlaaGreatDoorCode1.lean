/- The program's functions as code of the abstract machine. Conditions: none; definitions alone. -/
import Derived.Test.YtljpaghckmbmlaaGreatDoorAm4
import Derived.Test.YtljpaghckmbmlaaGreatDoorAm5
import Derived.Test.YtljpaghckmbmlaaGreatDoorCode
set_option maxRecDepth 100000
namespace AM
open Go
def axq:=U "g/(+)/**(),)(0+(i,)os(p(mg6!3)6**()(5.+)()()/(*b#p1.(f;!(i/(q)f1(:f021)f:(0l1l0jmml>l<l2t"
def acK:=U "g>!;f=!(z(nm"
def acL:=aZ "9(;)hg,)+(/(*bHp1)(f,!(i*(f++(hxrq(mxmmm" axq acK
def axr:=U "g3(.)3**(),)(0+(i,)os(p(mg:)9**()(7.+)()()/(*?*(1p2(f<!(i/()A**()(?.+)(/(+1oS(i!)!E(C>)(1)fH!(i*(!G(F>)(1)fJ!(i*(p.mmq)f=(#f<2=)f#(<l=l<jmmlKlMlHlGl>l.lnRln[t"
def axs:=U "gN(G(O,)(0*(i+)os*p(mgT(N(O(R.))(*()<p3,(:(i.)fM3hnmop(mq+f0(Rf/20)fR(/l0l/jmmlKlLlMlPlQl[l;l1l(t"
def acN:=U "g)Bhnm"
def acO:=aZ "g.+(hxrq*mxm" axs acN
def acP:=aZ "9(3hG1)hg/).(/(*?*(1p2(f/!(i+(f.+(hxrq(mxmmmm" axr acO
def acR:=U "9(3h)))*(),)(C((((d().(d)*()d*1V(d+((e()2(e)*()e*1p)(d/=+(70(f6((i5(nmm"
def acT:=U "9(3h)))*(),)(C((((d().(d)*()d*1p*(7+(f1((i0(nmm"
def acV:=U "9(3h)))*(),)(C((((d().(d)*()d*1oY(7+(f1((i0(nmm"
def acX:=U "g++(3h(!(!yg05((5))f.()f!((i,(nmm" [.iu (some 8) 178 [.t 6,.t 7,.f 179]]
def acZ:=U "g)9)9)3h)*(*())+(*()M(*(((d()0)d)*()d*)1)d+*()d,yg77!(f4((i3(nmm" [.iu (some 15) 180 [.t 12,.t 14,.f 143]]
def ac1:=U "g,9*;+hg1(1(1<oc)(f+((5+(5,)f/()f.((i.((61p8((1(88+5*1of(b;*()*)*(?+(Pp7.!(f9!(i0(nmmm"
def axt:=U "g40()hos(p(.*+)/(*f2@*`*2(l)l(j6,4)b0,(G*8)4*1of(?*(>+(G*6,:)bT,()i.(mq)22)f3((z(mmml?l>l:l2t"
def ac3:=U "g?/<*`*>(z(nm"
def ac4:=aZ "9(@*hg!),(*()b5*()(y`*!(i*()/)*(),)(+(z+xrq(mxmmm" axt ac3 [.kc 3 [.str [],.aS 2]]
def ac6:=U "9(yhg,)+)*(),)(D((i+))/)*(),)()2(*()y`,3Yi,Ynmop!mg7)6(*()1p!(f+((5+(5,)f9()f8((i!((8h(:y`,<bl(lbjnmop)mmg?)>(*()1oY(l*l)j)A(*()y`,Bhi)hnmop*mgE)D(*()y`,Eki)knmmmmm" [.alloc 2 [.int .i64 0,.int .i64 0,.int .i64 0,.str []],.build 14 [.int .i64 0,.int .i64 0,.int .i64 0,.str []] [(0,1,.c (.int .i64 3)),(2,1,.t 11),(3,1,.t 13)],.build 23 [.int .i64 0,.int .i64 0,.int .i64 0,.str []] [(1,1,.t 22)],.build 29 [.int .i64 0,.int .i64 0,.int .i64 0,.str []] [(0,1,.c (.int .i64 2)),(3,1,.t 28)],.build 32 [.int .i64 0,.int .i64 0,.int .i64 0,.str []] [(0,1,.c (.int .i64 1)),(3,1,.t 31)]]
def CI:List bo:=[.b 2 4]
def axu:=U "g.()(/,)(0*(((d((.d)(3d*,)(d+0*(7,(i1)os(p(mg:(:(6.*)(8+(*(=(:.*)(8+(*<o8,(f=((i0((=#((z)(?fB((z(nmop)mmq)f5(Af425)fA(4l5l4jmmlBl@l6l)t"
def Py:=U "gF(F,)((G,)(<ok*(fG((i,(nm"
def ac7:=aZ "g++(h+(hxrq(mxmm" axu Py
def ac8:=U "g++(h(,(,0)(l*l)jf+Qhnmop(m(/(/S)(l*l)jf.+)hnmop(mf.+(hnmmmm"
def ac9:=U "g++(h(,(,<p:)(f+((i*(nmm"
def axv:=U "g2(*(2b!)(l*l)jos(p(m(5(/(/(6bPp;+*)(i,((2f4((z((3(6J)(f6((i*(mmq)ml5l1lilnKln^t"
def axw:=U "gH(@(Hb!)(l*l)jos,p(m(K(E(F(HJ)((H(M[p<.!*)(i/((SfR((z((S(Qb<*(J*(fS((i+(mmq!mlTlXl:l5ln^t"
def ada:=U "gX(R(QJ)(fT((i*((T(L0)(l*l)j(K(R(T(L(M[p<,+*)(i!(op.mm(QyfQ(nfl(lnfjm" [.bin 62 0 .mul (.t 61) (.c (.int .i64 2))]
def axx:=aZ "gC(=(C0)(l*l)jos*p(m(@b<*(fA+(f@((l)l(jxrq,xmmq+mlAl@l?l;l*lnKln^t" axw ada
def adb:=cU "g>(>(8(?(?bPp;+*)(i,(xrq*m" axx
def PA:=aZ "g!+<hg1(+f++(f*((z(xrq(xmmm" axv adb
def adf:=U "9(3hg,)+)*(),)(C((i+)g1)0(*()1p!(f+((5+(5,)f3()f2((l3k!((2:(((d()8(d)*()d*1nx(d+:(7,(((d()>(d)*()d*1oY(d+:(7,(fB((i5(nmmop<m)C(*()1nx(:(((e()H)e)*()e*b4l(on=+(fM((i0(nmmm"
def adh:=U "9(yg*3hyg!b2p>,Fp=)(f+((i*((+N((z)y`,/Uf.3zUnmop(mg2(.yg4/(,`,3(f2Bi*(nmmmm" [.alloc 2 [.str [],.int .i64 0,.bool false,.bool false],.q4 5 (.g 0) 10 4 none none,.build 10 [.str [],.int .i64 0,.bool false,.bool false] [],.oJ 12 (.g 0) 10 4 (.t 11)]
def adi:List bo:=[.b 2 4,.t 3]
def adj:=U "9(3h)))*(),)(D(,((e().)e)*()e*b4l(op=+(f1((i0(nmm"
def axy:=U "g;0()hos(p(.*+)/(*f8@*`*8(l)l(j!>/9*b#oq)(fA!(i*(mq)2.)f/((z(mmmlAl?l>l<l8l.t"
def adl:=U "gB!Bf?!(z(nm"
def adm:=aZ "g*9);)hg.)+)*(),)(C((i+)!2)0(*()?)(>+(1)f3!(i,(nmop!m)4)*(),)(+(z+xrq(mxmmm" axy adl
def ado:=U "g+3h(,(,<p?)(b=((f,((i+(nmm"
def adq:=U "g);)h(*LpA(Lp@(f+!(i*(nmm"
def ads:=U "g+;+hg!(!LpB(f*!(l)l(j(*(/FpC)(i*(!!f/!(z(u.ob+nmmmm"
def adu:=U "V(yhg*b2pD)f)((z(nmm" [.hV 2 (.c .k4)]
def adw:=U "g++(b8h(!LpG(l)l(j(/(0E()()*()(3yg6E.)()`)(*i0((7,((f6((f5b8l)l(jnmmmm" [.r7 14 5 1 true (.t 12) (.t 13)]
def ady:=U "g+b8h(,LpG(l)l(j(.(/E()()*()(2?)(b7!)*(E/)()`)(*i1(f4b8hnmmmm"
def Ct:=U "g)9)9)3h)*(*())+(*()H(*(i,))/(*())0(*()0*(f2((i,(nmop!m)4)*())5)*()H(*(i,))9)*()):)*()0*(f<((i,(nmop!m)>**():(((d()A*d)*()7*(fC((i.(nmmmm"
def VY:=U "g,(((!,)(0*(i+)os(p(mg2(2(/.+)()(()((*()yi!(g9(6(:(7.+)()(()((*()<p(.(f>!(i/(op0mq)f8(=f728)f=(7l8l7jmml?l9l0t" [.bin 17 0 .neq (.t 16) (.c (.str [100,105,115,116,105,110,99,116]))]
def Cv:=U "gA!>f@!(z(nm"
def Cw:=aZ "g);)h;)h+(hxrq(mxmmm" VY Cv
def VZ:=U "g.()(/,)(0*(((d((3d)(/d*.))(d+*()d,(6d!0)(7.(i3)os(p(m(52()f7((l)l(jq)ml8l6l*lkt"
def Cy:=U "g<(7(=,)(0*(((d((Ad)(=d*.))(d+*()d,(Dd!M()(7.(i3)(HfE!(z(nmop)mfCG1)h!C(J(F^))(>+(1)fH!(i,(!H(L?)(>*(1)fQ!(i+(!Q(K(P_))(>+(1)fO!(i,(nmmmmm"
def Cz:=aZ "g+;)h+(hxrq(xmmm" VZ Cy
def adA:=U "g)3hg!(!1p+(f*((5*(5+)f.()f!((l.k,((!f0((z(nmmm"
def axz:=U "g<0()hos(p(()f;((z((>(<K)(1o/(:(((d((Dd)(Bd*K)(d+1pH(d,:(7!(((d((Kd)(#d*K)(d+1o0(d,:(7!(i:)fM3hnmop(mmq)2=)f>((z(mmmlMlNlAl=l)t"
def adB:=U "g)Bhnm"
def adC:=aZ "g)3hg+(+,((N()((e((/e),((e*D(8=+(((e((4e)b(((e*1pH(e+:(=,(i5)f73hnmop(m(9,((+(z*xrq(mxmmm" axz adB
def adD:=U "gB0()hos(p(()f?((z((D(@K)(1o0(:(i,)fG+(fF3hnmop(m(Eb<2((K(GK)(ygOX(J!(fO((i/(mmq)27)f8((z(mmmlMlNlPl;l7l1t" [.bin 39 0 .sub (.t 38) (.c (.int .u8 48))]
def PC:=U "gR(OfM((fNBz(nm"
def adE:=aZ "g)+(3hg!(!,((N()((e((1e),((e*D(,=+(((e((6e),((e*D()e+((d((:d)b(((d*b6(Xe/7+(=0(i9)f=+(f<3hnmop(mf;+(h(?,((+(z*xrq(mxmmmm" adD PC
def axA:=U "g10()hos(p(.*+)/(*y`*.(l)l(j(4)/(*()bR*(((d((9d))4)d**()d+b!*(7,(i1)f:Bhnmop(mmq)25)f6((z(mmml>l;l9l5l)t" [.alloc 6 [.int .u8 0,.int .u8 0]]
def adF:=U "g+3hnm"
def adG:=aZ "g+3hg.(!,)(+(hxrq(mxmm" axA adF
def adH:=U "g?(:(@,((0*(i+)os(p(mgE(E(AK)(yg#((e((Je)(Fe*K)(e+ygN=,(i1)fM+(fN3hnmop(m(Ob<2((K(PK)(ygUX(J!(fO((i/(mq)f;(Pf:2;)fP(:l;l:jmmlMlNl@l<l0t" [.bin 33 0 .lss (.t 32) (.c (.int .u8 48)),.bin 38 0 .gtr (.t 37) (.c (.int .u8 57)),.bin 45 0 .sub (.t 44) (.c (.int .u8 48))]
def PE:=U "gW(O(OyfM()fN(nZi)nZnm" [.bin 50 0 .leq (.t 49) (.c (.int .i64 9999))]
def adI:=aZ "g)+(3hg!(!,((N()((e((1e),((e*D(,=+(((e((6e)b(((e*b6(Xe+((d((:d),((d*D()e/7+(=0(i9)f=+(f<3hnmop(mf;+(hf:+(hxrq(mxmmmm" adH PE
def FJ:=U "9(+(hg!),(*()1p#(f+((5+(5,)f/()f.((i!(g3)2(*()1V(:(((e(/7*e)1pJ(e*:(=+(f1((i0(f:+,hnmg=/<*1pK(:(((e((=e)((d()B)d)*()d*,)(d+(Cd,H()(e/7!(=0(f5((i4(fH+!hnmgK/J*1nu(D(,f+((i*(fM++hnmop+mp9mpCmq(fM+(hnmmmm"
def adK:=U "g)3h(*yg,((d((!d)yg/7*(((d((1d)yg37*(f2((i1(nmm" [.bin 4 0 .neq (.t 3) (.c (.str [116,114,117,101])),.bin 7 0 .neq (.t 6) (.c (.str [100,111,101,115])),.bin 11 0 .neq (.t 10) (.c (.str [100,105,115,116,105,110,99,116]))]
def PF:=U "g)3hg!(!1p#(f*((5*(5+)f.()f!((l.k,((!:(((e((4e)yg6=*(((e((8e)yg:=*(((e((<e)yg>=*(((e((@e)ygB=*(fA((i9(nmmm" [.bin 14 0 .eql (.t 13) (.c (.str [114,111,108,101])),.bin 18 0 .eql (.t 17) (.c (.str [116,114,117,101])),.bin 22 0 .eql (.t 21) (.c (.str [100,111,101,115])),.bin 26 0 .eql (.t 25) (.c (.str [100,105,115,116,105,110,99,116]))]
def axB:=U "g0(+(1,)(0*(i+)os(p(mg6(6(2.))(4+()6+7(4+()M(*(i.)!=f:!(z(nmop)mq)f1(9f021)f9(0l1l0jmml=l:l8l6l2l)lkt"
def adN:=U "g>!>)<(*()?)(>+(1)f?!(i,(nm"
def axC:=U "gC(=)A)*(),)(0+(i,)os*p(mgJ!J)H)*()(G.*)(/(*b#p1!(fK!(i.(q+f0(Qf/20)fQ(/l0l/jmmlLlOlPl#lEl<l1t"
def adO:=U "gQ!KfO!(z(nm"
def adP:=aZ "g!+(hxrq*mxm" axC adO
def adQ:=cn "g*9);)hg./+*1oU(z)f++(hxrq(mxmop(mxmm" axB adN adP
def axD:=U "g;0()hos*p(()f7((z((8(8.))(*()1p*(((d((@d)(?d*(?d+.))(d,*()d!<pM,(d.:(7/(i5)!H(G(G.))(*()?)(>!(1)fN!(i.(op/mmq+2?)f@((z(mmmlMlOlQl#l?l0t"
def adS:=U "gS2J)fT((z("
def axE:=aZ "g10()hos(p(()f/((z((3(0.*)(/(*1pL(f3!(i,((3,)(+(z*xrq*mmmq)xmmml9l7l6l5l1l)l(l_lnKt" axD adS
def adT:=U "gT!NfM!(z(nm"
def adU:=aZ "g);)hG1)hg.(.,)(+(z*xrq(mxmmm" axE adT
def axF:=U "g!(((.,)(0*(i+)os(p(mg3(3(/.))(*()(6M()(i!)f5Bhnmop(mq)f/(4f.2/)f4(.l/l.jmml5l0l(t"
def adW:=U "g+3hnm"
def adX:=aZ "g+3h+(hxrq(mxmm" axF adW
def axG:=U "g6(!(!0)(l*l)jos(p(m(0(0J)(b+(b,()X(f4((i!((=(@(6.+)(/(+(CU!)(N((i/)(<2()f@((l)l(j(>f@((z(p+mmq)mlDlCl?l9l+t"
def adZ:=U "gJ(A(B(D0)(((d((Md)(Kd*(Hd+.+)(d,/(+d!(Ld.U!)(d/C((70(fQ(5fR((i5(nm"
def ad0:=aZ "g!+(3hg3(3,)(f!((l)l(j(!f!+(f,((z(xrq(xmmmm" axG adZ
def ad2:=U "g)9)g++(h)*(*()(!<ol)(f,((i+(nmm"
def axH:=U "g90()hos(p(().*,*/(*f5@*f6(*`*5(i*((<(7.*)(/(*f8@*`*8(i+((?/:*/:*U*)(:(i,)f@3hnmop(mmmq)25)f6((z(mmmlGlAl@l?l>l9l5l)t"
def ad4:=U "g!Bhnm"
def ad5:=aZ "g!3hg1(1,)((2,)(H(*(i,)f03hnmop(m(6,)(+(hxrq(mxmmm" axH ad4
def ad7:=U "g!;+hg1(1(1_+)(i*((2,)(f/((l)l(j(/C((z)wop(mg9(9,)(f3((l)l(j(:(4M()(l*l)j!>(=>)(oy+f;!(i*(nmwp+mwmmmmmm"
def ad9:=U "g);+h(*bN(z)f*;+hnmop(mbBoy+(!>)(oy+f!!(i*(nmmm"
def aeb:=U "g++(h(,(,yf*(Ri)Rnmm" [.uu 7 206 (.t 5) (.t 6)]
def axI:=U "g9(0(9S)(((d((:d)(>d*(6d+.*)(d,8,(*d!(Bd.(:d/O()d0.**(d18,(*d2U1!(d3N((74(i8)os*p(mgL(K(D(K(FO()(K(#O().**(8,(*(K(T.*)(8,(*.*54a,*(!.*42a,*(*i7(q+f9(Tf8O9)fT(8l9l8jmmlYl:t"
def aec:=U "g6(.2()f0((l)l(j"
def axJ:=aZ "g3(+(20)(l*l)jos(p(mg8(0f0((z(xrq*mq)xmml0l+lmt" axI aec
def PH:=cU "g1(02()f+((l)l(jxrq(m" axJ
def axK:=U "gF(<(<0)(l*l)jos(p(m(?(?J)(b+(b,()X(fC((i!((O(K(E.*)(8,(*(K(L.*)(8,(*U0,(N((i2)(W2()fU((l)l(j(WfV((z(p+mmq)mlMlNlWlXlYlZl[l$l]lJl#lHlGlFlElAl<l+lnblnxlo*lo<loCloalollp!lp;lp#lpWt"
def axL:=U "g^(X(UO()0*(i+)os*p(mgd(K(X(K(X2()(K(X2().**(8,(*(K(X.*)(8,(*.*54a,*(!.*42a,*(*i7(q+f9(Xf829)fX(8l9l8jmmlLlMlNlOlVlWlYlZl[l$l]l^l_l`lalblclglllBl:lnxlo*lo<loCloalollp!lp;lp#lpWt"
def jI:=cU "g](LfX((z(xrq*mnm" axL
def axM:=U "gnz(Y(Z0)(l*l)jos,p(m(Y(ZJ)(b+(b,()X(f[((i!((O(K(M.*)(8,(*(K([.*)(8,(*U0,(N((:(i3)([2()fY((l)l(j([fZ((z(p+mmq!mlLlNlUlVlWlXl[l$l]l^l_l`lalblclglllnZlnblBl=l+loCloalollp!lp;lp#lpWt"
def axN:=U "go@($(YS)(l*l)jos.p(mgoE(K($(K($O()(K($O().**(8,(*(K($.*)(8,(*.*54a,*(!.*42a,*(*i7(q/f9($f8O9)f$(8l9l8jmmlLlMlNlOlUlVlWlXlZl[l]l^l_l`lalblclglllnZlnblnxlo*lAl:loalollp!lp;lp#lpWt"
def jJ:=cU "go?(Mf$((z(xrq.mnm" axN
def axO:=U "goi(_(`0)(l*l)jos0p(m(_(`J)(b+(b,()X(fb((i!((O(K(a(bR)(.*+(8,(*(K(b.*)(8,(*U2,(N((:(i5)(b2()f_((l)l(j(bf`((z(p+mmq1mlUlVlWlXlYlZl[l$lblclglllnZlnblnxlo*lo<loClJl?l+lp;lp#lpWt"
def jl:=U "gp0(^(_R)(fc((i*((_(M0)(((d((Md)(cd*0)(7+(i/)(K(_(M(c(O[pQ,+*)(i!(op.m(L(_0)(((d((_d)(]d*0)(7+(i/)(K(L(_(](O[p<,+*)(i!(op.m(](c0)(((d((cd)(Nd*0)(7+(i/)(K(](c(N(O[p<,+*)(i!(op.mmmm"
def iX:=aZ "goU(L(NJ)(b+(b,()X(f]((i!((](MJ)(f^((i*(f_+(f`+(h(M(]S)(l*l)j(^(NR)(f_((i*((]f`((z(m(Lf_((z((Mf`((z(mp.m(^O()fa((l)l(jxrq0xmmmmmm" axO jl
def iY:=cn "gnt(N(MR)(C()i+)(LfY((z((MfZ((z(xrq,xmmmop*mxm" axM jJ iX
def aee:=cn "g@(>(@R)(C()i+)(Bf;((z((Bf;((z(xrq(xmmmop*mxm" axK jI iY
def axP:=U "g00()hos(p(()f!((z((1(3(/.,)(/(,Y,(i!)(3f5((z(nmop)mmq)21)f2((z(mmml6l5l1l*t"
def aef:=U "g+Qhnm"
def aeg:=aZ "g++(hg!(!,)(+(z*xrq(mxmm" axP aef
def aei:=U "g)9)3h))(*()*,)M()(f,((i+(nmm"
def axQ:=U "g00()hos(p(()f!((z((1(3(/.))(*()M(,(i!)(3f5((z(nmop)mmq)21)f2((z(mmml6l5l1l*t"
def aek:=U "g+Qhnm"
def ael:=aZ "g++(hg!(!,)(+(z*xrq(mxmm" axQ aek
def aen:=U "g);)hg+(+LpR(f*!(l)l(j(*LpS(l)l(j!,f.!(z(u!1)nmmmm"
def aep:=U "V(yhg*b2pT)f)((z(nmm" [.hV 2 (.c .k4)]
def aer:=U "g);+h(*bHpU+(f*!(l)l(jnmm"
def aet:=U "g)()E()((*()yi+(g.(.(/yyyg3E,)((`)(*i.((5E()((*()(9H,)(i!)wop(mp5m" [.bin 6 2 .eql (.t 5) (.c .fl),.r4 9 (.t 8) 148 2,.s8 10 215 (.t 9),.r4 11 (.t 10) 148 2]
def aev:=U "g)3h(*b*(i((d((!d)b)(o/7*(f.((i!(nmm"
def aew:=U "g)+(3h(+hy(QzQf++(f*Bhnmyg.(SzSoyf((TzToyf((UzUoyf((VzVp(mp(mp(mf!+)f,Bhnmyg3(XzXoyf((YzYoyf((ZzZoyf(([z[oyf(($z$p(mp(mp(mp(mf2+*f1Bhnmop(mp!mp/mq(mf2+(f13hnmmm" [.bin 6 0 .eql (.t 4) (.c (.str [116,101,114,109,105,110,97,108])),.bin 8 0 .eql (.t 4) (.c (.str [114,111,108,101])),.bin 9 0 .eql (.t 4) (.c (.str [105,110,105,116])),.bin 10 0 .eql (.t 4) (.c (.str [116,114,117,101])),.bin 11 0 .eql (.t 4) (.c (.str [110,101,120,116])),.bin 13 0 .eql (.t 4) (.c (.str [100,111,101,115])),.bin 14 0 .eql (.t 4) (.c (.str [108,101,103,97,108])),.bin 15 0 .eql (.t 4) (.c (.str [103,111,97,108])),.bin 16 0 .eql (.t 4) (.c (.str [115,101,101,115])),.bin 17 0 .eql (.t 4) (.c (.str [100,105,115,116,105,110,99,116]))]
def axR:=U "g/(,)/)*(),)(0+(i,)os(p(mg6)5)*()(5.*)(/(*f7@*`*7(i,(g<)8(*()1p+(f+((5+(5,)f<()f;((l<k!()=(*()1V(((e()A)e)*()e*,)(e+C((e,((d((Dd)((e()H(e)*()e*1p*(d!=+(e37.(=4(fR((i8((R:(((e(/O*e)1pJ(e*:(=+(i.)fM3hnmop(mmmmq)fX(NfY2X)fN(YlXlYjmmlKlMlOlQlRlWl(t"
def aey:=U "g)Bhnm"
def aez:=aZ "9(3h+(hxrq(mxmm" axR aey
def axS:=U "g+(()+)*(),)(0+(i,)os(p(mg2)1)*()(1.*)(/(*1pK(:(i.)f73hnmop(mq)f0(6f/20)f6(/l0l/jmml9l7l1l(t"
def aeB:=U "g9)8)*(),)(b.(,f;((i+(nm"
def aeC:=aZ "9(3h+(hxrq(mxmm" axS aeB
def axT:=U "g70()hos(p(()f5((z(!6)9)*()(8.*)(/(*1pL(>.(1)f>!(i/(mq)22)f3((z(mmmlBl@l>l:l2t"
def aeE:=U "gB!?fA!(z(nm"
def aeF:=aZ "9(;)hg,)+)*(),)(C((i+))/(*()bC1)(f1!(i*(nmop+mf0G1)h)2)*(),)(+(l+l*jxrq(mxmmmm" axT aeE
def axU:=U "g00()hos(p(()f!((z((2(..))(*()(5M()(i!)f4Bhnmop(mmq)20)f1((z(mmml5l4l0l)t"
def aeH:=U "g+3hnm"
def aeI:=aZ "g+3hg!(!,)(+(z*xrq(mxmm" axU aeH
def axV:=U "g9(/(/H()(l*l)jos(p(m(2(2S)(l*l)j(?(>(7R)((A(9(A[p[.+*)(i/((=(=R)(f@((i*(m(J(#(BR)((M(DJ)((GR)((#(O[p[2/*)(i3((V(UR)(fV((i*(mpBmq)mlLlNlElBt"
def aeK:=U "gY(K(M(UR)((M(U(O[p[.+*)(i/("
def aeL:=aZ "g3(1(3R)(f,((i*((3(5R)(f.((i*(xrq(xmmm" axV aeK
def aeN:=U "g);)h(*bHp$)(f*!(l)l(jnmm"
def axW:=U "g2(((00)(l*l)jos(p(mg7(7(7(/J)((;(:(3J)((?(>(7J)(.*+(8,(*(E(E(=J)(.*+(8,(*.*;8a,*(/.*85a,*(*i=(q)f?(Cf>2?)fC(>l?l>jmml#l@t"
def aeP:=cU "g1+(hxrq(m" axW
def axX:=U "gN0()hos(p(.*+)/(*fF@*`*F(l)l(j)H(*()/H*FD)(i+(mq)2/)f0((z(mmmlLlOlPlQlSlVl#lHlFlElAl9l5l/lnWlnXlnYlnZln`lnalnblnclnrt"
def axY:=U "gb0()hos,p(.)+)*()f[((l)l(j!Y(K([.+)(/(+?+(>!(S+fY!(i.(mq!22)f3((z(mmmlLlOlPlQlRlSlVlXl[l$l`lhlll#lHlGlFl;l2lnrt"
def aeR:=U "gm/T)(YFE)(f$((i*(($#((z)($fO;*fP((z(nmop)mm"
def aeS:=U "gns2B)fC((z("
def axZ:=cn "gY0()hos*p(.)+)*()fX!(l)l(j(X,)(bM(S+fY!(i*((X,)(+(hxrq,mxmmmq+xmmmlLlOlPlQlRlSlVlXlYl[l$l`lElAl>l=l<l;l0l*l)l(lnclnrt" axY aeR aeS
def aeT:=U "gnt)T(*()LG(LF(fO!(fP+(i+(nm"
def aeU:=aZ "gV(R,)(+(hxrq*mxm" axZ aeT
def aeV:=aZ "g+;*+(hg9(91@(f5((l)l(j(5#((z)(7f:;*f9((z(nmop)mmg?(?1A(f*((5*(5+)f<!)f;((i,((;#((z)(=fB;*fA((z(nmop)m(E1B(:(l*l)jfE;*fD+5hnmop(mbGCyy`)AnKl(lnKjgK(J,)(+(hxrq(mxmmmmmmm" axX aeU [.build 35 [.fl] [(0,1,.t 34)],.alloc 9 [.fl]]
def ax0:=U "g30()hos(p(().*,*/(*f2@*f3(*`*2(i*((4(4)4(4*())6)4*()1F(bJ*()+))(.*/.a,*()i0(mq)25)f6((z(mmmlAl?l=l<l5t"
def aeX:=U "gA!>f@!(z(nm"
def aeY:=aZ "g);*hg!(!,)(yf,!Si)Sg0(0,)(+(hxrq(mxmmm" ax0 aeX [.s5 8 31 [.str [],.aS 2] (.t 7)]
end AM
