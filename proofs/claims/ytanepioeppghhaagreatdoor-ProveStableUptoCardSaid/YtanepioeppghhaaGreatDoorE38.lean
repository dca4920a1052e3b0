/- unify.Match. Conditions: one variable at most is bound. -/
import Derived.Test.YtanepioeppghhaaGreatDoorE42
set_option linter.unusedSimpArgs false
set_option maxRecDepth 100000
set_option maxHeartbeats 4000000
set_option linter.unusedVariables false
namespace AM
open List renaming all_cons -> aKg,all_nil -> aKh
open Bool renaming and_self -> aKi
open Nat renaming lt_or_ge -> aKj
open Go Go.Proofs
open Tryz renaming prog -> ν
open Enc (enc)
theorem aE6(s:List ba):aF ν aB 76 [enc s] (enc (oE s)):=by
 refine aF.l9 fun n=>?_;have r:M=1099511627776:=rfl;have n:s.length<=M:=n.1;rcases aKj 64 s.length with d|d
 ·have e:oE s=false:=by rw[oE,decide_eq_false (by omega),Bool.false_and]
  rw[e];refine aF.intro (D:=ea) as0 fp fg ?_;unfold X7;simp(disch:=first|exact aq|fail) only[go_sem]
  (repeat' first|simp(disch:=first|exact aq|fail) only[go_sem]|(apply av<;>intro))
  all_goals rfl
 ·refine aF.intro (D:=ea) as0 fp fg ?_;unfold X7;simp(disch:=first|exact aq|fail) only[go_sem]
  (repeat' first|simp(disch:=first|exact aq|fail) only[go_sem]|(apply av<;>intro))
  refine b9 (fun i:Nat=>⟨N [(0,.v (enc s)),(8,.v (enc s)),(9,.v (enc s.length)),(10,.v (enc i))],[]⟩) (fun i=>i<=s.length/\∀k,k<i->wo s k=true) (fun i=>s.length-i) 0 ⟨Nat.zero_le _,fun k h=>absurd h (by omega)⟩ (by(try simp(disch:=first|exact aq|fail) only[go_sem])<;>(exact bG)) ?_;rintro i ⟨t,o⟩;rcases aKj i s.length with h|h
  ·cases a:wo s i with
   |true =>
    have p:∀k,k<i+1->wo s k=true:=fun k hk=>by
     rcases aKj k i with h|h
     ·exact o k h
     ·obtain rfl:k=i:=by omega
      exact a
    simp only[wo,Bool.and_eq_true]at a;obtain⟨⟨b,c⟩,q⟩:=a;rcases Nat.eq_zero_or_pos i with f|f
    ·subst f
     (repeat' first|simp(disch:=first|exact aq|fail) only[go_sem,b,c]|(apply av<;>intro))
     exact⟨1,⟨by omega,p⟩,by omega,by(exact bG)⟩
    ·obtain⟨j,rfl⟩:∃j,i=j+1:=⟨i-1,by omega⟩;have g:(Op.bytesLess s[j+1]!.var s[j]!.var||s[j+1]!.var==s[j]!.var)=false:=by simpa using q
     have l:(j:Int)+1-1=j:=by omega
     (repeat' first|simp(disch:=first|exact aq|fail) only[go_sem,b,c,g,l]|(apply av<;>intro))
     exact⟨j+2,⟨by omega,p⟩,by omega,by(exact bG)⟩
   |false =>
    have no:=aEL h a;rw[no];unfold wo at a;cases b:e9 s[i]!.var with
    |false =>
     (repeat' first|simp(disch:=first|exact aq|fail) only[go_sem,b]|(apply av<;>intro))
     all_goals rfl
    |true =>
     cases c:ct 4 s[i]!.term true with
     |false =>
      (repeat' first|simp(disch:=first|exact aq|fail) only[go_sem,b,c]|(apply av<;>intro))
      all_goals rfl
     |true =>
      rw[b,c]at a;obtain⟨j,rfl⟩:∃j,i=j+1:=⟨i-1,by rcases Nat.eq_zero_or_pos i with f|f;(· subst f;simp at a);omega⟩;have g:(Op.bytesLess s[j+1]!.var s[j]!.var||s[j+1]!.var==s[j]!.var)=true:=by simp only[Bool.true_and,Bool.not_eq_false',Nat.zero_lt_succ,decide_true,Nat.add_sub_cancel]at a;exact a
      have l:(j:Int)+1-1=j:=by omega
      (repeat' first|simp(disch:=first|exact aq|fail) only[go_sem,b,c,g,l]|(apply av<;>intro))
      all_goals rfl
  ·have m:=aEM d fun i ak=>o i (by omega);rw[m]
   (repeat' first|simp(disch:=first|exact aq|fail) only[go_sem]|(apply av<;>intro))
   all_goals rfl
variable {D:bc}{x1:AV}{s:List ba}{K:AV->Prop}{tg:aM K}
theorem aE7[bq D ea][aT x1 s]  :bT ν aB D 76 [x1] K tg=K (enc (oE s)):=aET (aE6 s)
attribute [go_sem ↓ 2000] aE7
theorem aE8(s:List ba):aF ν aB 78 [enc s] (enc s):=by
 refine aF.l9 fun a=>?_;have b:M=1099511627776:=rfl;have a:s.length<=M:=a.1;refine aF.jl (D:=ea) as2 fp (Enc.res _) (Enc.jP _) ?_;unfold Yf
 (repeat' first|simp(disch:=first|exact aq|fail) only[go_sem]|(apply av<;>intro))
 refine b9 (fun i:Nat=>⟨N [(3,.v (.list (some 153) 3 ((s.take i).map ba.enc))),(6,.v (enc s)),(7,.v (enc s.length)),(8,.v (enc i))],[]⟩) (fun i=>i<=s.length) (fun i=>s.length-i) 0 (Nat.zero_le _) (by(try simp(disch:=first|exact aq|fail) only[go_sem])<;>(first|rfl|(simp(disch:=first|exact a6|fail) only[cj,List.foldr_cons,List.foldr_nil,Env.ins,go_sem];try rfl))) ?_;intro i ak;rcases aKj i s.length with h|h
 ·have c:(s.take i).length=i:=by rw[List.length_take];omega
  (repeat' first|simp(disch:=first|exact aq|fail) only[go_sem]|(apply av<;>intro))
  exact⟨i+1,by omega,by omega,by(exact bG)⟩
 ·obtain rfl:i=s.length:=by omega
  rw[List.take_length]
  (repeat' first|simp(disch:=first|exact aq|fail) only[go_sem]|(apply av<;>intro))
  exact⟨_,rfl,by first|exact bQ.disown _ _ _|exact bQ.refl _⟩
theorem aE9[bq D ea][aT x1 s]  :bT ν aB D 78 [x1] K tg=K (enc (s)):=aES (aE8 s)
attribute [go_sem ↓ 2000] aE9
theorem aFa:aF ν aB 135 [.aV 3] (.aV 3):=by
 refine aF.intro (D:=ea) aJs rfl rfl ?_;unfold aqK
 (repeat' first|simp(disch:=first|exact aq|fail) only[go_sem]|(apply av<;>intro))
 all_goals rfl
theorem aFb(t:List ba)(a:t.length=1):aF ν aB 134 [.aV 3,.int .i64 0,enc t] (enc t):=by
 have b:M=1099511627776:=rfl;refine aF.jl (D:=ea) atL (by simp only[aKg,aKh,Enc.arg,aKi];rfl) (Enc.res _) (Enc.jP _) ?_;unfold ZY
 (repeat' first|simp(disch:=first|exact aq|fail) only[go_sem,a]|(apply av<;>intro))
 exact⟨_,rfl,by first|exact bQ.disown _ _ _|exact bQ.refl _⟩
section
variable {D:bc}[bq D ea]{K:AV->Prop}{tg:aM K}
theorem aFc:bT ν aB D 135 [.aV 3] K tg=K (.aV 3) :=
 tM rfl (bq.h (D':=ea) _ _ _ (by rw[s9 (F:=agO) (fun _=>rfl)];rfl)) aFa
theorem aFd{y:AV}{t:List ba}[a:aT y t](b:t.length=1):bT ν aB D 134 [.aV 3,.int .i64 0,y] K tg=K (enc t) :=
 tM (by simp only[aKg,a.arg,aKh,aKi];rfl) (bq.h (D':=ea) _ _ _ (by rw[s9 (F:=agN) (fun _=>rfl)];exact NR (F:=fun t:List ba=>enc t) a)) ((aFb t b).args (.cons (bQ.refl _) (.cons (bQ.refl _) (.cons a.kB .nil))))
attribute [go_sem ↓ 2000] aFc aFd
end
theorem agU(v:aj):mu [] v=0:=rfl
theorem agV(v:aj):qd [] v=false:=rfl
theorem aFe(v:aj)(t:I):aF ν aB 108 [.aV 3,enc v,enc t] (enc [ba.mk v t]):=by
 have a:M=1099511627776:=rfl;refine aF.intro (D:=ea) ats (by simp only[aKg,aKh,Enc.arg,aKi];rfl) (Enc.res _) ?_;unfold Zg
 (repeat' first|simp(disch:=first|exact aq|fail) only[go_sem,agU,agV]|(apply av<;>intro))
 all_goals rfl
section
variable {D:bc}[bq D ea]{K:AV->Prop}{tg:aM K}
variable {x y:AV}
theorem aFf{v:aj}{t:I}[a:aT x v][U:aT y t]:bT ν aB D 108 [.aV 3,x,y] K tg=K (enc [ba.mk v t]) :=
 tM (by simp only[aKg,a.arg,U.arg,aKh,aKi];rfl) (bq.h (D':=ea) _ _ _ (by rw[s9 (F:=agP) (fun _=>rfl)];exact abt (F:=fun(v:aj)(t:I)=>enc [ba.mk v t]) a U)) ((aFe v t).args (.cons (bQ.refl _) (.cons a.kB (.cons U.kB .nil))))
theorem agW{p g:I}[a:aT x p][U:aT y g](h:aF ν aB 77 [enc p,enc g,kh s] (r1 (nP p g s))):bT ν aB D 77 [x,y,kh s] K tg=K (r1 (nP p g s)) :=
 tM (by simp only[aKg,a.arg,U.arg,(aT.kh s).arg,aKh,aKi]) (bq.h (D':=ea) _ _ _ (by rw[s9 (F:=rI fun(p:I)(g:I)(s:List ba)=>r1 (nP p g s)) (fun _=>rfl)];exact NS (F:=fun(p:I)(g:I)(s:List ba)=>r1 (nP p g s)) a U (aT.kh s))) (h.args (.cons a.kB (.cons U.kB (.cons (bQ.refl _) .nil))))
attribute [go_sem ↓ 2000] aFf
end
theorem aFg(s:List ba):(kh s).aW=kh s:=by unfold kh;split<;>rfl
theorem Ju(s:List ba):(kh s).arg=true:=(aT.kh s).arg
theorem aFh{s:an}{d x:Nat}{K:an->Prop}{tg:aM K}(q:List ba):xr s d x K tg (kh q)=c7 s d (kh q) K ⟨⟩:=by unfold kh;split<;>rfl
attribute [go_sem 2000] aFh
attribute [go_sem] aFg Ju
theorem aFi(p g:I)(s:List ba):nP p g s=if uk p then(if qd s p.name then some (s,hi s[mu s p.name]!.term g)else if s.length=0 then some ([⟨p.name,g⟩],true)else none)
  else if p.name != g.name||decide (p.args.length≠g.args.length)then some ([],false)else rZ p.args g.args s:=by
 cases p;rw[nP];rfl
theorem Rh(r:Option (List ba×Bool)):(r1 r).res=true:=by
 cases r with
 |none=>rfl|some q=>obtain⟨s,b⟩:=q;simp only[r1];unfold kh;split<;>rfl
theorem aFj{l m:List I}{i:Nat}(c:i<l.length)(U:i<m.length):rZ (l.drop i) (m.drop i) s=match nP l[i]! m[i]! s with
  |none=>none|some (s',true)=>rZ (l.drop (i+1)) (m.drop (i+1)) s'|some (_,false)=>some ([],false):=by
 rw[fY c,fY U,rZ];cases nP l[i]! m[i]! s with
 |none=>rfl|some q=>obtain⟨a,b⟩:=q;cases b<;>rfl
theorem aFk:∀(p g:I)(s:List ba)(R:List ba×Bool),nP p g s=some R->s.length<=1->aF ν aB 77 [enc p,enc g,kh s] (r1 (some R)):=I.ind fun p ih g s R h az=>by
 have w:M=1099511627776:=rfl;rw[aFi]at h;cases d:uk p with
 |true =>
  rw[d,if_pos rfl]at h;cases c:qd s p.name with
  |true =>
   rw[c,if_pos rfl]at h;simp only[Option.some.injEq]at h;subst h;have cc:s≠[]:=fun e=>by rw[e]at c;cases c
   have o:mu s p.name<s.length:=by
    unfold qd at c;simp only[Bool.and_eq_true,decide_eq_true_eq]at c;exact c.1
   rw[agM cc];have e:r1 (some (s,hi s[mu s p.name]!.term g))=.a8 [.list none 3 (s.map ba.enc),.bool (hi s[mu s p.name]!.term g)]:=by rw[r1,agM cc]
   rw[e];obtain⟨i,ak⟩:∃i,i=mu s p.name:=⟨_,rfl⟩;rw[<-ak]at o ⊢;refine aF.intro (D:=ea) as1 (by simp only[aKg,aKh,Enc.arg];rfl) rfl ?_;unfold Yb
   (repeat' first|simp(disch:=first|exact aq|fail) only[go_sem,d,c,<-ak]|(apply av<;>intro))
   all_goals rfl
  |false =>
   rw[c,if_neg (by simp)]at h;split at h
   ·rename_i t;simp only[Option.some.injEq]at h;subst h;obtain rfl:=List.length_eq_zero_iff.1 t;rw[aEN];have e:r1 (some ([⟨p.name,g⟩],true))=.a8 [.list none 3 [(ba.mk p.name g).enc],.bool true]:=rfl;rw[e];refine aF.intro (D:=ea) as1 (by simp only[aKg,aKh,Enc.arg];rfl) rfl ?_;unfold Yb
    (repeat' first|simp(disch:=first|exact aq|fail) only[go_sem,d,agU,agV]|(apply av<;>intro))
    all_goals rfl
   ·cases h
 |false =>
  rw[d,if_neg (by simp)]at h;cases f:p.name==g.name with
  |false =>
   rw[show(p.name != g.name)=true by rw[bne,f];rfl,Bool.true_or,if_pos rfl]at h;simp only[Option.some.injEq]at h;subst h;refine aF.intro (D:=ea) as1 (by simp only[aKg,aKh,Enc.arg,Ju,aKi]) (Rh _) ?_;unfold Yb
   (repeat' first|simp(disch:=first|exact aq|fail) only[go_sem,d,f]|(apply av<;>intro))
   all_goals rfl
  |true =>
   rw[show(p.name != g.name)=false by rw[bne,f];rfl,Bool.false_or]at h;by_cases m:p.args.length=g.args.length
   ·rw[decide_eq_false (by omega),if_neg (by simp)]at h;have cc:((p.args.length:Int) != (g.args.length:Int))=false:=by rw[m];simp
    refine aF.zf fun u z=>?_;have A:=((I.o4 p).1 u).2.1;refine aF.intro (D:=ea) as1 (by simp only[aKg,aKh,Enc.arg,Ju,aKi]) (Rh _) ?_;unfold Yb
    (repeat' first|simp(disch:=first|exact aq|fail) only[go_sem,d,f,cc]|(apply av<;>intro))
    refine b9 (fun i:Nat×List ba=>⟨N [(2,.v (kh i.2)),(3,.v (.db p.enc.cells)),(4,.v (.db g.enc.cells)),(51,.v (enc p.args.length)),(52,.v (enc i.1))],[]⟩) (fun i=>i.1<=p.args.length/\i.2.length<=1/\rZ (p.args.drop i.1) (g.args.drop i.1) i.2=some R) (fun i=>p.args.length-i.1) (0,s) ⟨Nat.zero_le _,az,h⟩ (by(try simp(disch:=first|exact aq|fail) only[go_sem])<;>(exact bG)) ?_;rintro⟨i,q⟩ ⟨v,k,a⟩;simp only at v k a;rcases aKj i p.args.length with ak|ak
    ·rw[aFj ak (by omega)]at a;cases hm:nP p.args[i]! g.args[i]! q with
     |none=>rw[hm]at a;cases a|some r =>
      obtain⟨l,b⟩:=r;have hd:=ih p.args[i]! (ft ak) g.args[i]! q (l,b) hm k;rw[<-hm]at hd;have n:=fun{K:AV->Prop}{tg:aM K}=>agW (D:=ea) (K:=K) (tg:=tg) (x:=p.args[i]!.enc) (y:=g.args[i]!.enc) hd;have j:r1 (nP p.args[i]! g.args[i]! q)=.a8 [kh l,.bool b]:=by rw[hm];rfl
      rw[hm]at a;cases b with
      |true =>
       simp only at a
       (repeat' first|simp(disch:=first|exact aq|fail) only[go_sem,n,j]|(apply av<;>intro))
       exact⟨(i+1,l),⟨by simp only;omega,agK hm k,a⟩,by simp only;omega,by(exact bG)⟩
      |false =>
       simp only[Option.some.injEq]at a;subst a
       (repeat' first|simp(disch:=first|exact aq|fail) only[go_sem,n,j]|(apply av<;>intro))
       all_goals rfl
    ·rw[List.drop_eq_nil_of_le ak,rZ]at a
     ·simp only[Option.some.injEq]at a;subst a
      (repeat' first|simp(disch:=first|exact aq|fail) only[go_sem]|(apply av<;>intro))
      all_goals rfl
     all_goals simp
   ·rw[decide_eq_true m,if_pos rfl]at h;simp only[Option.some.injEq]at h;subst h;have cc:((p.args.length:Int) != (g.args.length:Int))=true:=by simp;omega
    refine aF.intro (D:=ea) as1 (by simp only[aKg,aKh,Enc.arg,Ju,aKi]) (Rh _) ?_;unfold Yb
    (repeat' first|simp(disch:=first|exact aq|fail) only[go_sem,d,f,cc]|(apply av<;>intro))
    all_goals rfl
end AM
