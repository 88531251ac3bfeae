import Derived.Test.YtbdcmpknicjopaaGreatProg
import Derived.Test.YtbdcmpknicjopaaGreatTp7
namespace Go.Proofs.YtbdcmpknicjopaaGreat
set_option linter.all false
set_option maxRecDepth 100000
open Go.RowKit Proofs.Tryz
variable{C a b j m n x:Nat}{K:List gw}{O:Hd}{P' ps zzD:List (Nat×Nat)}{Q:Exit->AA->ah->Prop}{S S':ah}{U:AA}{Y:World}{c c' h:Nat->Nat}{dr:Bool}{e v:Int}{ik:IntKind}{lo:Nat->Int}{sh:Nat->Option Nat}{up:List Nat}
variable{args:List AV}{l:List Int}{r:List Nat×Nat}{i:Nat}{P:Prop}
structure Tm where
 k:Int
 i:Int
 n:ByteArray
 a:List Tm
mutual def lX:Tm->List AV|⟨k,i,n,a⟩=>[iv k,iv i,.v (.string n),.sl false (SC a)]def SC:List Tm->List (List AV)|[]=>[]|x::l=>lX x::SC l end
theorem Mq:∀l,SC l=l.map lX|[]=>by rw[SC];rfl|x::l=>by rw[SC,Mq l];rfl
mutual def Tm.amk{p:Tm->Prop}{q:List Tm->Prop}(b:∀k i n a,q a->p ⟨k,i,n,a⟩)(h0:q [])(h1:∀x l,p x->q l->q (x::l)):∀t,p t|⟨k,i,n,a⟩=>b k i n a (Tm.afA b h0 h1 a)def Tm.afA{p:Tm->Prop}{q:List Tm->Prop}(b:∀k i n a,q a->p ⟨k,i,n,a⟩)(h0:q [])(h1:∀x l,p x->q l->q (x::l)):∀l,q l|[]=>h0|x::l=>h1 x l (Tm.amk b h0 h1 x) (Tm.afA b h0 h1 l)end
theorem Tm.ind{p:Tm->Prop}(h:∀k i n (a:List Tm),(∀x∈a,p x)->p ⟨k,i,n,a⟩)(t:Tm):p t :=Tm.amk (q:=λl=>∀x∈l,p x) h (λx h=>X) (λx l b c y d=>X) t
def tl(O:Hd)(l:List Tm):AV:=aY O lX false l
def kR(O:Hd)(x:Tm):List AV:=[iv x.k,iv x.i,.v (.string x.n),tl O x.a]
def tm(O:Hd)(x:Tm):AV:=.agg (kR O x)
theorem qK(x:Tm):lX x=kR O x:=by let⟨k,i,n,a⟩:=x;rw[lX,Mq,kR,tl,bF]
theorem yV(x:Tm):(lX x).length=4:=by rw[qK (O:=.plain)];rfl
theorem zL(x:Tm):∀a∈lX x,Pure a:=by refine Tm.ind (p:=λx=>∀a∈lX x,Pure a) ?_ x;intro k i n a e b d;rw[lX]at d;simp only[al_,ax_,or_false]at d;rcases d with rfl|rfl|rfl|rfl;exact .v;exact .v;exact .v;rw[Mq];exact .sl λrow f c g=>X
theorem cZ(l:List Tm):Pure (tl O l):=en λx _ a b=>zL x a b
theorem tO(x:Tm):∀a∈kR O x,Pure a:=by rw[<-qK];exact zL x
def bH(x:Tm):Pure (tm O x):=.agg (tO x)
theorem cD{l:List Tm}{i:Int}{k:Nat}{x:Tm}(hi:i=(k:Int))(h:l[k]?=some x):idx (O.h (List.map lX) l) i=some (kR O x):=by rw[fm hi h,qK]
def cE{l:List Tm}:∀r∈O.h (List.map lX) l,r.length=4:=ec λx=>yV x
structure At where
 n:ByteArray
 a:List Tm
structure Gl where
 op:Int
 n:ByteArray
 a:List Tm
structure Im where
 id:Int
 n:ByteArray
 a:List Tm
structure Bd where
 v:Int
 t:Tm
structure Fi where
 tG:Int
 ids:List Int
structure Rl where
 n:ByteArray
 aQ:List At
 rem:List At
 guard:List Gl
 body:List Gl
 vars:Int
structure Dc where
 n:ByteArray
 ar:Int
structure Pg where
 ds:List Dc
 rs:List Rl
structure c_ where
 goals:List Gl
 store:List Im
 binds:List Bd
 bf:List Fi
 known:List Gl
 next:Int
 fresh:Int
 failed:Bool
def atR(O:Hd)(x:At):List AV:=[.v (.string x.n),tl O x.a]
def MG(O:Hd)(x:Gl):List AV:=[iv x.op,.v (.string x.n),tl O x.a]
def XA(O:Hd)(x:Im):List AV:=[iv x.id,.v (.string x.n),tl O x.a]
def bP(O:Hd)(x:Bd):List AV:=[iv x.v,iv x.t.k,iv x.t.i,.v (.string x.t.n),tl O x.t.a]
def H9(O:Hd)(x:Fi):List AV:=[iv x.tG,aY O aV false x.ids]
def fI(O:Hd)(l:List At):AV:=aY O (atR O) false l
def er(O:Hd)(l:List Gl):AV:=aY O (MG O) false l
def kS(O:Hd)(l:List Im):AV:=aY O (XA O) false l
def a8(O:Hd)(l:List Bd):AV:=aY O (bP O) false l
def ky(O:Hd)(l:List Fi):AV:=aY O (H9 O) false l
def lY(O:Hd)(x:Rl):List AV:=[.v (.string x.n),fI O x.aQ,fI O x.rem,er O x.guard,er O x.body,iv x.vars]
def XC(x:Dc):List AV:=[.v (.string x.n),iv x.ar]
def g7(O:Hd)(l:List Dc):AV:=aY O XC false l
def Ty(O:Hd)(l:List Rl):AV:=aY O (lY O) false l
def jk(O:Hd)(x:Pg):List AV:=[g7 O x.ds,Ty O x.rs]
def qe(O:Hd)(x:c_):List AV:=[er O x.goals,kS O x.store,a8 O x.binds,ky O x.bf,er O x.known,iv x.next,iv x.fresh,.v (.bool x.failed)]
def at_(O:Hd)(x:At):AV:=.agg (atR O x)
def gl(O:Hd)(x:Gl):AV:=.agg (MG O x)
def it(O:Hd)(x:Im):AV:=.agg (XA O x)
def bd(O:Hd)(x:Bd):AV:=.agg (bP O x)
def fi(O:Hd)(x:Fi):AV:=.agg (H9 O x)
def rl(O:Hd)(x:Rl):AV:=.agg (lY O x)
def pg(O:Hd)(x:Pg):AV:=.agg (jk O x)
def uM(O:Hd)(x:c_):AV:=.agg (qe O x)
theorem bZ(l:List Int){ex:Bool}:Pure (aY O aV ex l):=en λx _ a b=>by cases ar_.1 b;exact .v
theorem zX{a b:AV}(d:Pure a)(e:Pure b):∀c∈[a,b],Pure c:=X
theorem WT{a b c:AV}(e:Pure a)(f:Pure b)(g:Pure c):∀d∈[a,b,c],Pure d:=X
def SD(x:At):∀a∈atR O x,Pure a:=zX .v (cZ _)
def JN(x:Gl):∀a∈MG O x,Pure a:=WT .v .v (cZ _)
def JO(x:Im):∀a∈XA O x,Pure a:=WT .v .v (cZ _)
theorem mz(x:Bd):∀a∈bP O x,Pure a:=by simp[bP,cZ,Pure.v,iv]
def SE(x:Fi):∀a∈H9 O x,Pure a:=zX .v (bZ _)
theorem cQ(l:List At):Pure (fI O l):=en λx _ a b=>SD x a b
theorem a7(l:List Gl):Pure (er O l):=en λx _ a b=>JN x a b
theorem dQ(l:List Im):Pure (kS O l):=en λx _ a b=>JO x a b
theorem bI(l:List Bd):Pure (a8 O l):=en λx _ a b=>mz x a b
theorem eN(l:List Fi):Pure (ky O l):=en λx _ a b=>SE x a b
theorem DA(x:Rl):∀a∈lY O x,Pure a:=by simp[lY,cQ,a7,Pure.v,iv]
def O6(x:Dc):∀a∈XC x,Pure a:=zX .v .v
theorem eL(l:List Dc):Pure (g7 O l):=en λx _ a b=>O6 x a b
def pP(l:List Rl):Pure (Ty O l):=en λx _ a b=>DA x a b
def qZ(x:Pg):∀a∈jk O x,Pure a:=zX (eL _) (pP _)
theorem wI(x:c_):∀a∈qe O x,Pure a:=by simp[qe,a7,dQ,bI,eN,Pure.v,iv]
def ud(x:At):Pure (at_ O x):=.agg (SD x)
def jH(x:Gl):Pure (gl O x):=.agg (JN x)
def yR(x:Im):Pure (it O x):=.agg (JO x)
def uu(x:Bd):Pure (bd O x):=.agg (mz x)
def Ct(x:Fi):Pure (fi O x):=.agg (SE x)
def lh(x:Rl):Pure (rl O x):=.agg (DA x)
def m8(x:Pg):Pure (pg O x):=.agg (qZ x)
def qc(x:c_):Pure (uM O x):=.agg (wI x)
theorem I{P:Program}{rd:Bool}{n:Nat}{Q:Exit->AA->ah->Prop}(G:List Nat){a b:QF}{U c:AA}{S':ah}(k:H P Y rd n Q b c S')(h:nI G 400 a U S=(b,c,S'):=by conv=>lhs;cbv):H P Y rd n Q a U S:=H.xy G 400 h k
section
variable{P:Program}{rd:Bool}{i:QI}{l:List QI}
theorem fq{ex:Exit}{r:AV}{a:List QR}{R:AV->ah->Prop}(k:R r S')(h:LI a ex U S=some (r,S'):=by conv=>lhs;cbv):H P Y rd n (vE a R) (.out ex []) U S:=H.fin h k
theorem bq{e:Bool}(a:e=true->H P Y rd n Q (.bj dr l K) (bU i.d U (.v (.bool true))) S')(b:e=false->H P Y rd n Q (.bj dr l K) (bU i.d U (.v (.bool false))) S')(c:bC U.tm i.g=some true:=by rfl)(h:D P Y dr i.q U S (.v (.bool e)) S':=by exact D.bit rfl):H P Y rd n Q (.bj dr (i::l) K) U S:=H.bif c h a b
theorem cr(k:∀d,d=e->H P Y rd n Q (.bj dr l K) (bU i.d U (.v (.int ik d))) S')(a:bC U.tm i.g=some true:=by rfl)(h:D P Y dr i.q U S (.v (.int ik e)) S':=by exact D.len rfl):H P Y rd n Q (.bj dr (i::l) K) U S:=H.int a h k
theorem cK(k:∀d,d=e->H P Y rd n Q (.bj dr l K) (bU i.d U (.v (.int ik d))) S')(a:bC U.tm i.g=some true:=by rfl)(h:D P Y dr i.q U S (.v (.int ik e)) S':=by exact D.yA rfl rfl rfl (by omega) (by omega)):H P Y rd n Q (.bj dr (i::l) K) U S:=H.int a h k
theorem im(k:∀d,d=e->H P Y rd n Q (.bj dr l K) (bU i.d U (.v (.int ik d))) S')(a:bC U.tm i.g=some true:=by rfl)(h:D P Y dr i.q U S (.v (.int ik e)) S':=by exact D.al2 rfl (by omega) (by omega)):H P Y rd n Q (.bj dr (i::l) K) U S:=H.int a h k
end
theorem bW:(∀(p:Prop) [Decidable p],(decide p=true)=p)/\(∀(p:Prop) [Decidable p],(decide p=false)=¬p)/\(∀{U:Type} [BEq U] [LawfulBEq U] (a b:U),((a==b)=true)=(a=b))/\(∀{U:Type} [BEq U] [LawfulBEq U] (a b:U),((a==b)=false)=¬a=b)/\(∀{U:Type} [BEq U] [LawfulBEq U] (a b:U),((a !=b)=true)=¬a=b)/\(∀{U:Type} [BEq U] [LawfulBEq U] (a b:U),((a !=b)=false)=(a=b)) /\(∀b:Bool,¬b=true=(b=false))/\(∀b:Bool,¬b=false=(b=true))/\(∀b:Bool,((!b)=true)=(b=false))/\(∀b:Bool,((!b)=false)=(b=true))/\∀{U:Type}(a b:U),(a≠b)=¬a=b:=by refine⟨λp _=>aB,λp _=>aB,λa b=>aB,λa b=>aB,λa b=>aB,λa b=>aB,λb=>aB,λb=>aB,λb=>aB,λb=>aB,λa b=>rfl⟩
theorem sq(h:P:=by repeat' first|exact trivial|refine⟨?_,?_⟩;first|exact .aJ rfl .v|exact .aJ rfl yZ|exact .aJ rfl (Pure.bu (by first|exact .v|exact cZ _|exact bZ _|exact cQ _|exact a7 _|exact dQ _|exact bI _|exact eN _|exact eL _|exact pP _|exact bH _|exact ud _|exact jH _|exact yR _|exact uu _|exact Ct _|exact lh _|exact m8 _|exact qc _|assumption))|exact .aJ rfl .u|exact .new rfl rfl|exact .jB rfl rfl|exact .lH rfl|exact .o9 rfl rfl|exact .vA rfl rfl|exact .aJ rfl (.pt (by decide))|exact .aJ rfl (.mp (by decide))|exact .aJ rfl (.gr (by decide))|exact .aJ rfl (.ob (by decide))|exact .aJ rfl (.yl (by decide))):P:=h
theorem kq(h:P:=by repeat' first|exact trivial|refine⟨?_,?_⟩;first|exact .aJ .v|exact .aJ yZ|exact .aJ (Pure.bu (by first|exact .v|exact cZ _|exact bZ _|exact cQ _|exact a7 _|exact dQ _|exact bI _|exact eN _|exact eL _|exact pP _|exact bH _|exact ud _|exact jH _|exact yR _|exact uu _|exact Ct _|exact lh _|exact m8 _|exact qc _|assumption))|exact .jB rfl rfl|exact .lH|exact .aJ (.pt (by decide))|exact .aJ (.mp (by decide))|exact .aJ (.gr (by decide))|exact .o9 rfl rfl|exact .vA rfl rfl|exact .aJ .u):P:=h
theorem cq(h:P:=by exact⟨by repeat' first|exact trivial|refine⟨?_,?_⟩;first|exact .aJ rfl .v|exact .aJ rfl yZ|exact .aJ rfl (Pure.bu (by first|exact .v|exact cZ _|exact bZ _|exact cQ _|exact a7 _|exact dQ _|exact bI _|exact eN _|exact eL _|exact pP _|exact bH _|exact ud _|exact jH _|exact yR _|exact uu _|exact Ct _|exact lh _|exact m8 _|exact qc _|assumption))|exact .aJ rfl .u|exact .new rfl rfl|exact .jB rfl rfl|exact .lH rfl|exact .o9 rfl rfl|exact .vA rfl rfl|exact .aJ rfl (.pt (by decide))|exact .aJ rfl (.mp (by decide))|exact .aJ rfl (.gr (by decide))|exact .aJ rfl (.ob (by decide))|exact .aJ rfl (.yl (by decide)),rfl,trivial,rfl,rfl,rfl⟩):P:=h
abbrev FQ(n:FuncId)(f:Func):={q:QC×List QR //qg prog n q f.ntmps}
abbrev aC{n:FuncId}{f:Func}{q:QC×List QR}(hf:prog.funcs[n]?=some f)(hc:∀(xs:Array Value) (w:World),(callFunc n xs).run prog w=.ok (.enter n xs) w)(hq:W9 progTables f=some q:=by conv=>lhs;cbv)(hT:prog.toTables=progTables:=by rfl)(hd:KX prog f=true:=by kernel_rfl):FQ n f:=⟨q,qg.of hf hq hT rfl hd hc⟩
abbrev ab(Y:World):=ao prog Y
theorem st{n:FuncId}{f:Func}{r:AV}{a:QF}{U:AA}(x:FQ n f)(G:List Nat)(b:Pure r)(k:H prog Y false f.ntmps (vE x.1.2 λc S=>aI S c r) a U S)(d:args.length<=f.ntmps:=by exact ay_ rfl)(g:nI G 400 (.run x.1.1 []) ⟨pO args,[]⟩ ah.none_=(a,U,S):=by conv=>lhs;cbv):ab Y n args r:=x.2.aun d b (H.xy G 400 g k)
theorem sc{n:FuncId}{f:Func}{a:AV}{so:List (Nat×Ob)}(B N:Nat)(x:FQ n f)(k:H prog Y false f.ntmps (vE x.1.2 λr S'=>∃m,lC B m N r a/\gH B m N S' so/\tu B m (so.map (·.1))=true) (.run x.1.1 []) ⟨pO args,[]⟩ S)(b:args.length<=f.ntmps:=by exact ay_ rfl)(c:Nat.ble S.nx B=true:=by rfl)(d:Nat.ble B N=true:=by rfl):aF prog Y n args S a (aw so N):=qg.auD B N so x.2 b c d k
section
attribute [local irreducible] ao aF D H
def Qk:Nat:=1099511627776
mutual def Tm.ok:Tm->Prop|⟨k,i,n,a⟩=>a.length<=Qk/\n.size<=Qk/\dR a def dR:List Tm->Prop|[]=>True|x::l=>x.ok/\dR l end
theorem dR.mem:∀{l:List Tm},dR l->∀x∈l,x.ok|[],_,x,h=>X|y::l,a,x,h=>by rw[dR]at a;rcases al_.1 h with rfl|h;grind;exact a.2.mem x h
theorem Tm.ok.out{t:Tm}(h:t.ok):t.a.length<=1099511627776/\t.n.size<=1099511627776/\dR t.a:=by let⟨k,i,n,a⟩:=t;rw[Tm.ok]at h;exact h
def aqm:=aC func318 call318
def aml:List Nat:=[3,2,0,4,6,8]
def aqn:=aC func279 call279
def amm:List Nat:=[4,2,0,1,5,7,9]
def aqo:=aC func223 call223
def amn:List Nat:=[0,1,4,5,9]
def aqp:=aC func280 call280
def amo:List Nat:=[0,1,4,5,9]
def aqq:=aC func256 call256
def amp:List Nat:=[0,2]
def aqr:=aC func334 call334
def amq:List Nat:=[0,2]
def aqs:=aC func194 call194
def adl:List Nat:=[0,1,6,4,5,11,12,13,16,19]
def aqt:=aC func319 call319
def adm:List Nat:=[0,1,6,4,5,11,12,13,16,19]
def aqu:=aC func193 call193
def BS:List Nat:=[8,5,3,2,0,7,9,6,14]
def aqv:=aC func292 call292
def Hc:List Nat:=[2,3,20,5,21,6,7,4,0,1,16,29,39,47]
def aqw:=aC func320 call320
def x_:List Nat:=[9,0,5,6,4,8,10,1,22]
def OH:=aC func222 call222
def mO:List Nat:=[2,3,5,15,16,4,0,1,12,24,34,41,54,61]
def aqx:=aC func153 call153
def nJ:List Nat:=[5,0,1,6,4,16,29]
def iQ(k:Int):Int:=if k=1 then 0 else if k=0 then 1 else if k=2 then 2 else 3
def jz(a b:Int):Int:=if a<b then-1 else if b<a then 1 else 0
def zR(a b:ByteArray):Int:=if Op.bytesLess a.toList b.toList then-1 else if Op.bytesLess a.toList b.toList||a.toList==b.toList then 0 else 1
def Cc:List Int->Int|[]=>0|x::l=>if x=0 then Cc l else x
def fZ(a b:Int):Int:=if a=0 then b else a
mutual def fe:Tm->Tm->Int|⟨k,i,n,a⟩,y=>fZ (jz (iQ k) (iQ y.k)) (if iQ k=0\/iQ k=1 then jz i y.i else if iQ k=2 then fZ (jz a.length y.a.length) (fZ (zR n y.n) (jt a y.a)) else fZ (jz k y.k) (fZ (jz i y.i) (zR n y.n)))def jt:List Tm->List Tm->Int|[],m=>jz 0 m.length|x::l,[]=>1|x::l,y::m=>fZ (fe x y) (jt l m)end
theorem amr(k:Int):ab Y 318 [iv k] (iv (iQ k)):=by
 refine st aqm aml .v ?_;repeat' first|refine bq (λa=>?_) λa=>?_<;>(try simp only[bW]at a)<;>(first|refine I aml ?_)|refine fq ?_
 all_goals refine aI.of_eq ?_;simp_all[iQ,iv]
theorem uE(x:Tm):ab Y 279 [tm O x] (iv (iQ x.k)):=by
 let⟨k,i,n,a⟩:=x;refine st aqn amm .v ?_;repeat' first|refine bq (λb=>?_) λb=>?_<;>(try simp only[bW]at b)<;>(first|refine I amm ?_)|refine fq ?_
 all_goals refine aI.of_eq ?_;simp_all[iQ,iv]
theorem C4(a b:Int):ab Y 223 [iv a,iv b] (iv (jz a b)):=by
 refine st aqo amn .v ?_;repeat' first|refine bq (λc=>?_) λc=>?_<;>(try simp only[bW]at c)<;>(first|refine I amn ?_)|refine fq ?_
 all_goals refine aI.of_eq ?_;simp only[jz,iv];(repeat' split)<;>first|rfl|omega
theorem Vb(a b:ByteArray):ab Y 280 [.v (.string a),.v (.string b)] (iv (zR a b)):=by
 refine st aqp amo .v ?_;repeat' first|refine bq (λc=>?_) λc=>?_<;>(try simp only[bW]at c)<;>(first|refine I amo ?_)|refine fq ?_
 all_goals refine aI.of_eq ?_;simp_all[zR,iv]
theorem ams(a:Int):ab Y 256 [iv a] (.v (.bool false)):=by
 refine st aqq amp .v ?_;repeat' first|refine bq (λb=>?_) λb=>?_<;>(try simp only[bW]at b)<;>(first|exact dy b|refine I amp ?_)|refine fq ?_
 all_goals refine aI.of_eq ?_;simp_all
theorem amt(a:ByteArray):ab Y 334 [.v (.string a)] (.v (.bool false)):=by
 refine st aqr amq .v ?_;repeat' first|refine bq (λb=>?_) λb=>?_<;>(try simp only[bW]at b)<;>(first|exact dy b|refine I amq ?_)|refine fq ?_
 all_goals refine aI.of_eq ?_;simp_all
theorem PK(a b:Int):ab Y 194 [iv a,iv b] (iv (jz a b)):=by
 refine st aqs adl .v ?_;repeat' first|refine H.op rfl (D.bO rfl (ams _) ⟨.v,trivial⟩) ?_;refine I adl ?_|refine bq (λc=>?_) λc=>?_<;>(try simp only[bW]at c)<;>(first|refine I adl ?_)|refine fq ?_
 all_goals refine aI.of_eq ?_;simp only[jz,iv];(repeat' split)<;>first|rfl|omega
theorem amu(a b:ByteArray):ab Y 319 [.v (.string a),.v (.string b)] (iv (zR a b)):=by
 refine st aqt adm .v ?_;repeat' first|refine H.op rfl (D.bO rfl (amt _) ⟨.v,trivial⟩) ?_;refine I adm ?_|refine bq (λc=>?_) λc=>?_<;>(try simp only[bW]at c)<;>(first|refine I adm ?_)|refine fq ?_
 all_goals refine aI.of_eq ?_;simp_all[zR,iv]
theorem dx{a b:Int}(h:a=b):aI S (.v (.int .i64 a)) (iv b):=by subst h;exact aI.refl _
theorem aK{a b:Bool}(h:a=b):aI S (.v (.bool a)) (.v (.bool b)):=by subst h;exact aI.refl _
theorem amv(l:List Int)(d:l.length<=Qk):ab Y 193 [aY O aV false l] (iv (Cc l)):=by
 rw[Qk]at d;refine st aqu BS .v ?_;repeat' first|refine cr λm e=>?_;(try rw[az]at e);refine I BS ?_
 refine H.g5 (σ:=Int) 0 0 [] (λi=>[(3,.v (.int .i64 0)),(6,aY O aV false l),(7,.v (.int .i64 m)),(8,.v (.int .i64 i))]) [] (λ_=>[]) (λi=>∃k:Nat,i=k/\k<=l.length/\Cc l=Cc (l.drop k)) (λi=>l.length-i.toNat) 0 ⟨0,rfl,aB,aB⟩ rfl cq ?_;rintro i⟨k,g,n,b⟩;refine I BS ?_;by_cases c:k<l.length
 ·let⟨x,h,j⟩:∃x,l[k]?=some x/\l.drop k=x::l.drop (k+1):=⟨l[k],aw_ c,bM_ c⟩;rw[j,Cc]at b;repeat' first|refine H.op rfl (D.ind rfl rfl (fm (l:=l) g h) (ec λ_=>rfl)) ?_;refine I BS ?_|refine bq (λa=>?_) λa=>?_<;>(try simp only[bW]at a)<;>(first|refine I BS ?_)|refine cK λ_ _=>?_;refine I BS ?_|refine xG BS ?_|refine H.al3 ?_;refine I BS ?_|refine fq ?_
  grind[dx];rw[if_pos X]at b;refine H.bK (σ:=Int) _ [] ?_ ?_ cq;grind;omega;omega
 ·skip;repeat' first|refine bq (λa=>?_) λa=>?_<;>(try simp only[bW]at a)<;>(first|refine I BS ?_)|refine H.lG ?_;refine I BS ?_|refine fq ?_
  omega;rw[b,aq_ (by omega)];exact dx rfl
end
instance:Inhabited Tm:=⟨⟨0,0,⟨#[]⟩,[]⟩⟩
theorem Y1{a b:ByteArray}:a.toList=b.toList↔a=b:=⟨λh=>by rw[ByteArray.toList_eq,ByteArray.toList_eq]at h;cases a;cases b;simp only[ByteArray.mk.injEq];exact Array.toList_inj.1 h,λh=>h ▸ rfl⟩
def vr(v:Int):Tm:=⟨1,v,⟨#[]⟩,[]⟩
mutual def mB(f:Int->Tm):Tm->Tm|⟨k,i,n,a⟩=>if k=1 then f i else⟨k,i,n,Bu f a⟩def Bu(f:Int->Tm):List Tm->List Tm|[]=>[]|x::l=>mB f x::Bu f l end
theorem ahy(f:Int->Tm)(v:Int):mB f (vr v)=f v:=by grind[vr,mB]
theorem NU(f:Int->Tm):∀l,Bu f l=l.map (mB f)|[]=>by rw[Bu];rfl|x::l=>by rw[Bu,NU f l];rfl
mutual def oV(v:Int):Tm->Prop|⟨k,i,n,a⟩=>if k=1 then i=v else jb v a def jb(v:Int):List Tm->Prop|[]=>False|x::l=>oV v x\/jb v l end
mutual def eU:Tm->Prop|⟨k,i,n,a⟩=>if k=1 then n=⟨#[]⟩/\a=[] else eW a/\(k=2\/a=[])def eW:List Tm->Prop|[]=>True|x::l=>eU x/\eW l end
theorem eW.mem:∀{l:List Tm},eW l->∀x∈l,eU x|y::l,h,x,a=>by rw[eW]at h;rcases al_.1 a with rfl|a;grind;exact h.2.mem x a
theorem L5:∀{l:List Tm},(∀x∈l,eU x)->eW l|[],_=>by rw[eW];trivial|y::l,h=>by rw[eW];exact⟨h y aB,L5 λx a=>h x X⟩
theorem NV{v:Int}:∀{l:List Tm},jb v l↔∃x∈l,oV v x|[]=>by rw[jb];simp|y::l=>by rw[jb,NV];simp
theorem SF{t:Tm}(h:eU t)(b:t.k=1):t=vr t.i:=by let⟨k,i,n,a⟩:=t;obtain rfl:k=1:=b;rw[eU,if_pos rfl]at h;obtain⟨rfl,rfl⟩:=h;rfl
mutual theorem Vc{f:Int->Tm}:∀{t:Tm},eU t->(∀w,oV w t->f w=vr w)->mB f t=t|⟨k,i,n,a⟩,h,b=>by rw[mB];split;rename_i c;rw[b i (by grind[oV])];exact(SF h c).symm;rename_i c;rw[eU,if_neg c]at h;rw[SG h.1 λw d=>b w (by grind[oV])];theorem SG{f:Int->Tm}:∀{l:List Tm},eW l->(∀w,jb w l->f w=vr w)->Bu f l=l|[],_,_=>by rw[Bu]|x::l,h,b=>by rw[eW]at h;rw[Bu,Vc h.1 λw d=>b w (by grind[jb]),SG h.2 λw d=>b w (by grind[jb])];end
def yd(E:List (Tm×Tm))(f:Int->Tm):Prop:=∀e∈E,mB f e.1=mB f e.2
structure He(E:List (Tm×Tm))(s:Int->Tm):Prop where
 wf:∀v,eU (s v)idem:∀v w,oV w (s v)->s w=vr w
 low:∀v w,s v=vr w->w<=v
 Vd:yd E s
 gen:∀f,yd E f->∀v,f v=mB f (s v)
theorem He.uniq{E:List (Tm×Tm)}{s t:Int->Tm}(hs:He E s)(c:He E t):s=t:=by
 have key:∀{f g:Int->Tm},He E f->He E g->∀v,f v=vr v->g v=vr v:=by
  intro f g j d v l;have b:=d.gen f j.Vd v;rw[l]at b;have m:(g v).k=1:=by have h:=d.wf v;generalize g v=t at b h;let⟨k,i,n,a⟩:=t;rw[mB]at b;split at b;grind;injection b with b;exact b.symm
  have e:=SF (d.wf v) m;generalize(g v).i=w at e;rw[e,ahy]at b;have o:=j.low _ _ b.symm;have p:=d.low _ _ e;rw[e,show w=v by omega]
 funext v;rw[hs.gen s hs.Vd v];have b:=c.gen s hs.Vd v;rw[<-hs.gen s hs.Vd v,b];exact Vc (c.wf v) λw h=>key c hs w (c.idem v w h)
abbrev aS:=List (Tm×List Nat)
def tn(N:aS)(i:Nat):Tm:=(N[i]?.getD default).1
def ks(N:aS)(i:Nat):List Nat:=(N[i]?.getD default).2
structure fR(N:aS):Prop where
 lt:∀i,i<N.length->∀j∈ks N i,j<i
 args:∀i,i<N.length->(tn N i).a=(ks N i).map (tn N)wf:∀i,i<N.length->eU (tn N i)one:∀i j,i<N.length->j<N.length->(tn N i).k=1->(tn N j).k=1->(tn N i).i=(tn N j).i->i=j
def Sound(E:List (Tm×Tm))(N:aS)(i j:Nat):Prop:=∀f,yd E f->mB f (tn N i)=mB f (tn N j)
def alike(s t:Tm):Prop:=s.k=t.k/\s.i=t.i/\s.n=t.n/\s.a.length=t.a.length
structure uR(E:List (Tm×Tm))(N:aS)(c:Nat->Nat):Prop where
 g:fR N
 sound:∀i j,i<N.length->j<N.length->c i=c j->Sound E N i j
 eqs:∀e∈E,∃i j,i<N.length/\j<N.length/\tn N i=e.1/\tn N j=e.2/\c i=c j
 al:∀i j,i<N.length->j<N.length->c i=c j->(tn N i).k≠1->(tn N j).k≠1->alike (tn N i) (tn N j)/\(ks N i).map c=(ks N j).map c
structure Dq(N:aS)(c:Nat->Nat)(T:Nat->Tm):Prop where shaped:∀i,i<N.length->(tn N i).k≠1->T (c i)=⟨(tn N i).k,(tn N i).i,(tn N i).n,(ks N i).map λj=>T (c j)⟩plain:∀i,i<N.length->(∀j,j<N.length->c j=c i->(tn N j).k=1)->∃j,j<N.length/\c j=c i/\T (c i)=vr (tn N j).i/\∀j',j'<N.length->c j'=c i->(tn N j).i<=(tn N j').i
theorem xC{f:Int->Tm}{t:Tm}(h:t.k≠1):mB f t=⟨t.k,t.i,t.n,t.a.map (mB f)⟩:=by let⟨k,i,n,a⟩:=t;rw[mB,if_neg h,NU]
theorem SI{f:Int->Tm}{t:Tm}(h:t.k=1):mB f t=f t.i:=by let⟨k,i,n,a⟩:=t;rw[mB,if_pos h]
theorem amw{E:List (Tm×Tm)}{N:aS}(h:Sound E N i j)(hi:(tn N i).k≠1)(a:(tn N j).k≠1)(b:¬alike (tn N i) (tn N j)):¬∃f,yd E f:=by rintro⟨f,c⟩;have:=h f c;rw[xC hi,xC a]at this;injection this with d e g k;exact b ⟨d,e,g,by simpa using congrArg List.length k⟩
theorem Xd{E:List (Tm×Tm)}{N:aS}(g:fR N)(d:i<N.length)(e:j<N.length)(h:Sound E N i j)(hi:(tn N i).k≠1)(k:(tn N j).k≠1){p:Nat}(m:(ks N i)[p]?=some a)(n:(ks N j)[p]?=some b):Sound E N a b:=by intro f o;have:=h f o;rw[xC hi,xC k]at this;injection this with q r s c;rw[g.args i d,g.args j e]at c;have:=congrArg (λl=>l[p]?) c;simpa[m,n] using this
mutual def cO:Tm->Nat|⟨k,i,n,a⟩=>bE a+1def bE:List Tm->Nat|[]=>0|x::l=>cO x+bE l end
theorem lj:∀{l:List Tm},∀x∈l,cO x<=bE l|y::l,x,h=>by rw[bE];rcases al_.1 h with rfl|h;omega;have:=lj x h;omega
def uS(N:aS)(c:Nat->Nat)(r:Nat->Nat):Prop:=∀i,i<N.length->(tn N i).k≠1->∀j∈ks N i,r (c j)<r (c i)
theorem MP{E:List (Tm×Tm)}{N:aS}(g:fR N)(hs:∀i j,i<N.length->j<N.length->c i=c j->Sound E N i j)(h:∃f,yd E f):∃r,uS N c r:=by
 let⟨f,k⟩:=h;have key:∀C,∃n,∀i,i<N.length->c i=C->cO (mB f (tn N i))=n:=by intro C;by_cases b:∃i,i<N.length/\c i=C;let⟨i,a,b⟩:=b;exact⟨_,λj d e=>by rw[hs j i d a (e.trans b.symm) f k]⟩;exact⟨0,λi a e=>absurd ⟨i,a,e⟩ b⟩
 refine⟨λC=>(key C).choose,λi a m j d=>?_⟩;have o:=g.lt i a j d;show(key (c j)).choose<(key (c i)).choose;rw[<-(key (c i)).choose_spec i a rfl,<-(key (c j)).choose_spec j Z rfl,xC m,cO];have:=lj (l:=(tn N i).a.map (mB f)) (mB f (tn N j)) (by rw[g.args i a,bk_];exact aD_.2 ⟨j,d,rfl⟩);omega
section
variable{E:List (Tm×Tm)}{N:aS}{T:Nat->Tm}{r:Nat->Nat}
theorem NW(hC:uR E N c)(g:Dq N c T)(n:uS N c r){f:Int->Tm}(k:yd E f):∀(m i:Nat),r (c i)<m->i<N.length->mB f (tn N i)=mB f (T (c i))|0,i,h,_=>Z|m+1,i,h,l=>by by_cases b:∀j,j<N.length->c j=c i->(tn N j).k=1;let⟨j,a,d,o,_⟩:=g.plain i l b;rw[o,hC.sound i j l a d.symm f k,SI (b j a d),vr,mB,if_pos rfl];let⟨j,a,d,e⟩:∃j,j<N.length/\c j=c i/\(tn N j).k≠1:=X;rw[<-d,g.shaped j a e,hC.sound i j l a d.symm f k,xC e,xC (t:=⟨_,_,_,_⟩) e,hC.g.args j a];simp only[bk_,Tm.mk.injEq,true_and];refine aQ_ λp b=>?_;have q:=hC.g.lt j a p b;have s:=n j a e p b;exact NW hC g n k m p X Z
theorem Hf(hC:uR E N c)(b:Dq N c T){f:Int->Tm}(e:∀i,i<N.length->(tn N i).k=1->f (tn N i).i=T (c i)):∀(m i:Nat),i<m->i<N.length->mB f (tn N i)=T (c i)|0,i,h,_=>Z|m+1,i,h,a=>by by_cases d:(tn N i).k=1;grind[SI];rw[xC d,b.shaped i a d,hC.g.args i a];simp only[bk_,Tm.mk.injEq,true_and];refine aQ_ λp g=>?_;have j:=hC.g.lt i a p g;exact Hf hC b e m p Z Z
theorem JP(hC:uR E N c)(o:Dq N c T)(u:uS N c r):∀(m i:Nat),r (c i)<m->i<N.length->eU (T (c i))/\∀w,oV w (T (c i))->∃j,j<N.length/\(tn N j).k=1/\(tn N j).i=w/\T (c j)=vr w|0,i,h,_=>Z|m+1,i,h,v=>by by_cases d:∀j,j<N.length->c j=c i->(tn N j).k=1;let⟨j,b,g,y,_⟩:=o.plain i v d;rw[y];refine⟨by grind[vr,eU],λw q=>?_⟩;rw[vr,oV,if_pos rfl]at q;exact⟨j,b,d j b g,q,X⟩;let⟨j,b,g,f⟩:∃j,j<N.length/\c j=c i/\(tn N j).k≠1:=X;have z:∀p∈ks N j,_:=λp d=>JP hC o u m p (by have:=u j b f p d;rw[g]at this;omega) (by have:=hC.g.lt j b p d;omega);rw[<-g,o.shaped j b f,eU,if_neg f];refine⟨⟨L5 λx A=>?_,?_⟩,λw q=>?_⟩;grind;have s:=hC.g.wf j b;have l:=hC.g.args j b;generalize tn N j=t at s l f;let⟨k,B,n,a⟩:=t;rw[eU,if_neg f]at s;refine s.2.imp_right λe=>?_;simp only at l;rw[e]at l;rw[List.map_eq_nil_iff.1 l.symm];rfl;grind[oV,NV]
open Classical in noncomputable def Ib(N:aS)(c:Nat->Nat)(T:Nat->Tm)(v:Int):Tm:=if h:∃i,i<N.length/\(tn N i).k=1/\(tn N i).i=v then T (c h.choose) else vr v
theorem B9(g:fR N)(hi:i<N.length)(a:(tn N i).k=1):Ib N c T (tn N i).i=T (c i):=by unfold Ib;have h:∃j,j<N.length/\(tn N j).k=1/\(tn N j).i=(tn N i).i:=⟨i,hi,a,rfl⟩;rw[dif_pos h,g.one _ _ h.choose_spec.1 hi h.choose_spec.2.1 a h.choose_spec.2.2]
theorem I1(h:¬∃i,i<N.length/\(tn N i).k=1/\(tn N i).i=v):Ib N c T v=vr v:=by grind[Ib]
theorem Pv(hC:uR E N c)(d:Dq N c T)(n:uS N c r):He E (Ib N c T):=by
 have l:∀v,(∃i,i<N.length/\(tn N i).k=1/\(tn N i).i=v/\Ib N c T v=T (c i))\/Ib N c T v=vr v:=λv=>by by_cases h:∃i,i<N.length/\(tn N i).k=1/\(tn N i).i=v;obtain⟨i,a,b,rfl⟩:=h;exact .inl ⟨i,a,b,rfl,B9 hC.g a b⟩;grind[I1]
 refine⟨λv=>?_,λv w g=>?_,λv w g=>?_,λe q=>?_,λf s v=>?_⟩;rcases l v with⟨i,a,b,o,e⟩|e;rw[e];exact(JP hC d n _ i (bm_ _) a).1;grind[vr,eU];rcases l v with⟨i,a,b,o,e⟩|e;rw[e]at g;obtain⟨j,k,b,rfl,d⟩:=(JP hC d n _ i (bm_ _) a).2 w g;rw[B9 hC.g k b,d];grind[vr,oV];rcases l v with⟨i,a,b,rfl,e⟩|e;rw[e]at g;by_cases t:∀j,j<N.length->c j=c i->(tn N j).k=1;let⟨j,k,m,u,x⟩:=d.plain i a t;rw[u,vr,vr,Tm.mk.injEq]at g;rw[<-g.2.1];exact x i a rfl;let⟨j,k,m,b⟩:∃j,j<N.length/\c j=c i/\(tn N j).k≠1:=X;rw[<-m,d.shaped j k b,vr,Tm.mk.injEq]at g;exact absurd g.1 b;grind[vr];let⟨i,j,a,k,y,z,m⟩:=hC.eqs e q;have p:∀i,i<N.length->(tn N i).k=1->Ib N c T (tn N i).i=T (c i):=λi a b=>B9 hC.g a b;rw[<-y,<-z,Hf hC d p _ i (bm_ _) a,Hf hC d p _ j (bm_ _) k,m];rcases l v with⟨i,a,b,rfl,e⟩|e;rw[e,<-NW hC d n s _ i (bm_ _) a,SI b];grind[vr,mB]
end
def Rel(c:Nat->Nat)(P:List (Nat×Nat))(i j:Nat):Prop:=∀d:Nat->Nat,(∀x y,c x=c y->d x=d y)->(∀p∈P,d p.1=d p.2)->d i=d j
structure jL(E:List (Tm×Tm))(N:aS)(zzD:List (Nat×Nat))(c:Nat->Nat)(P:List (Nat×Nat)):Prop where
 g:fR N
 sound:∀i j,i<N.length->j<N.length->c i=c j->Sound E N i j
 pJ:∀p∈P,p.1<N.length/\p.2<N.length/\Sound E N p.1 p.2eqs:∀p∈zzD,Rel c P p.1 p.2al:∀i j,i<N.length->j<N.length->c i=c j->(tn N i).k≠1->(tn N j).k≠1->alike (tn N i) (tn N j)/\∀q a b:Nat,(ks N i)[q]?=some a->(ks N j)[q]?=some b->Rel c P a b
def alike.refl(t:Tm):alike t t:=⟨rfl,rfl,rfl,rfl⟩
def alike.symm{s t:Tm}(h:alike s t):alike t s:=⟨h.1.symm,h.2.1.symm,h.2.2.1.symm,h.2.2.2.symm⟩
def alike.trans{s t u:Tm}(h:alike s t)(k:alike t u):alike s u:=⟨h.1.trans k.1,h.2.1.trans k.2.1,h.2.2.1.trans k.2.2.1,h.2.2.2.trans k.2.2.2⟩
section
variable{E:List (Tm×Tm)}{N:aS}{P:List (Nat×Nat)}
def Rel.mono(h:Rel c P i j)(a:∀d:Nat->Nat,(∀x y,c' x=c' y->d x=d y)->(∀p∈P',d p.1=d p.2)->(∀x y,c x=c y->d x=d y)/\∀p∈P,d p.1=d p.2):Rel c' P' i j:=λd b e=>h d (a d b e).1 (a d b e).2
theorem jL.mono(h:jL E N zzD c P)(f:∀p∈P',p.1<N.length/\p.2<N.length/\Sound E N p.1 p.2)(o:∀d:Nat->Nat,(∀x y,c x=c y->d x=d y)->(∀p∈P',d p.1=d p.2)->∀p∈P,d p.1=d p.2):jL E N zzD c P':=by have key:∀{i j},Rel c P i j->Rel c P' i j:=λh=>h.mono λd g r=>⟨g,o d g r⟩;exact⟨h.g,h.sound,f,λp f=>key (h.eqs p f),λi j k l e m n=>⟨(h.al i j k l e m n).1,λq a b s t=>key ((h.al i j k l e m n).2 q a b s t)⟩⟩
def jL.perm(h:jL E N zzD c P)(b:∀p,p∈P'↔p∈P):jL E N zzD c P':=h.mono (λp a=>h.pJ p ((b p).1 a)) λd _ e p a=>e p ((b p).2 a)
theorem jL.pop{y:Nat}(h:jL E N zzD c ((x,y)::P))(e:c x=c y):jL E N zzD c P:=h.mono (λp a=>h.pJ p (.tail _ a)) λd a b p f=>X
def iN(c:Nat->Nat)(a b:Nat)(i:Nat):Nat:=if c i=b then a else c i
def OI(N:aS)(i j:Nat):List (Nat×Nat):=(ks N i).zip (ks N j)
def o9(N:aS):Option Nat->Option Nat->List (Nat×Nat)|some s,some t=>OI N s t|_,_=>[]
theorem ahz{U β:Type}{l:List U}{m:List β}{q:Nat}{a:U}{b:β}(c:l[q]?=some a)(d:m[q]?=some b):(a,b)∈l.zip m:=dv_.2 ⟨q,X⟩
def jI(N:aS)(c:Nat->Nat)(C:Nat):Option Nat->Prop|none=>∀i,i<N.length->c i=C->(tn N i).k=1|some s=>s<N.length/\c s=C/\(tn N s).k≠1
theorem nX(g:fR N)(hi:i<N.length):(ks N i).length=(tn N i).a.length:=by rw[g.args i hi,bq_]
theorem adn{y:Nat}{d:Nat->Nat}(h1:∀u v,iN c (c x) (c y) u=iN c (c x) (c y) v->d u=d v):(∀u v,c u=c v->d u=d v)/\d x=d y:=by grind[iN]
theorem aai{y:Nat}(hs:∀i j,i<N.length->j<N.length->c i=c j->Sound E N i j)(l:x<N.length)(b:y<N.length)(n:Sound E N x y):∀i j,i<N.length->j<N.length->iN c (c x) (c y) i=iN c (c x) (c y) j->Sound E N i j:=by intro i j d g e f a;have m:=n f a;unfold iN at e;split at e;rename_i h;split at e;rename_i k;rw[hs i y d b h f a,hs j y g b k f a];rw[hs i y d b h f a,<-m,hs x j l g e f a];rename_i h;split at e;rename_i k;rw[hs i x d l e f a,m,hs y j b g k.symm f a];exact hs i j d g e f a
theorem jL.merge{y:Nat}(h:jL E N zzD c ((x,y)::P)){sa sb:Option Nat}(k:jI N c (c x) sa)(l:jI N c (c y) sb)(aR:∀s t,sa=some s->sb=some t->alike (tn N s) (tn N t)):jL E N zzD (iN c (c x) (c y)) (o9 N sa sb++P):=by
 let⟨hx,hy,ph⟩:=h.pJ _ (.head _);have hs:=aai h.sound hx hy ph;let⟨Q,K⟩:=aq (o9 N sa sb);rw[<-K];have F:∀s t,sa=some s->sb=some t->Q=OI N s t:=λs t e1 e2=>by rw[K,e1,e2];rfl
 have key:∀{i j},Rel c ((x,y)::P) i j->Rel (iN c (c x) (c y)) (Q++P) i j:=λhr=>hr.mono λd m n=>by let⟨r,A⟩:=adn m;refine⟨r,λp g=>?_⟩;rcases al_.1 g with rfl|g;grind;grind
 have S:∀i j,i<N.length->j<N.length->c i=c x->c j=c y->(tn N i).k≠1->(tn N j).k≠1->alike (tn N i) (tn N j)/\∀q a b:Nat,(ks N i)[q]?=some a->(ks N j)[q]?=some b->Rel (iN c (c x) (c y)) (Q++P) a b:=by intro i j o u L M v w;cases sa with|none=>exact absurd (k i o L) v|some s =>cases sb with|none=>exact absurd (l j u M) w|some t =>
    let⟨z,T,V⟩:=k;let⟨B,W,QY⟩:=l;let⟨a1,a2⟩:=h.al i s o z (L.trans T.symm) v V;let⟨b1,b2⟩:=h.al t j B u (W.trans M.symm) QY w;have R:=aR s t rfl rfl;refine⟨(a1.trans R).trans b1,λq a b G Ux=>?_⟩;have l1:q<(ks N i).length:=(aB_.1 G).1;have l2:(ks N i).length=(ks N s).length:=by rw[nX h.g o,nX h.g z,a1.2.2.2]
    have l3:(ks N s).length=(ks N t).length:=by rw[nX h.g z,nX h.g B,R.2.2.2]
    have Nr:(ks N s)[q]?=some ((ks N s)[q]'Z):=aw_ _;have J:(ks N t)[q]?=some ((ks N t)[q]'Z):=aw_ _;intro d m n;refine(key (a2 q _ _ G Nr) d m n).trans (Eq.trans ?_ (key (b2 q _ _ J Ux) d m n));have:=ahz Nr J;exact n _ (List.mem_append_left _ (by rw[F s t rfl rfl];exact this))
 have axk:∀i j,i<N.length->j<N.length->c i=c y->c j=c x->(tn N i).k≠1->(tn N j).k≠1->alike (tn N i) (tn N j)/\∀q a b:Nat,(ks N i)[q]?=some a->(ks N j)[q]?=some b->Rel (iN c (c x) (c y)) (Q++P) a b:=λi j o u L M v w=>by let⟨m,n⟩:=S j i u o M L w v;exact⟨m.symm,λq a b k l d r A=>(n q b a l k d r A).symm⟩
 refine⟨h.g,hs,λp g=>?_,λp g=>key (h.eqs p g),λi j o u e v w=>?_⟩;rcases aN_.1 g with g|g;cases sa with|none=>rw[K]at g;cases sb<;>cases g|some s =>cases sb with|none=>rw[K]at g;cases g|some t =>
   let⟨z,T,V⟩:=k;let⟨B,W,QY⟩:=l;rw[F s t rfl rfl]at g;let⟨q,C⟩:=dv_.1 g;unfold OI at C;let⟨p1,p2⟩:=p;rw[cB_]at C;have R:Sound E N s t:=λf hf=>by rw[h.sound s x z hx T f hf,ph f hf,h.sound y t hy B W.symm f hf]
   have m1:=h.g.lt s z p1 (as_ C.1);have m2:=h.g.lt t B p2 (as_ C.2);exact⟨X,X,Xd h.g z B R V QY C.1 C.2⟩
 exact h.pJ p (.tail _ g);unfold iN at e;split at e;rename_i m;split at e;rename_i n;let⟨r,A⟩:=h.al i j o u (m.trans n.symm) v w;exact⟨r,λq a b k l=>key (A q a b k l)⟩;grind;rename_i m;split at e;grind;let⟨r,A⟩:=h.al i j o u e v w;exact⟨r,λq a b k l=>key (A q a b k l)⟩
theorem jL.aez{y:Nat}(h:jL E N zzD c ((x,y)::P)){s t:Nat}(a:jI N c (c x) (some s))(b:jI N c (c y) (some t))(e:¬alike (tn N s) (tn N t)):¬∃f,yd E f:=by let⟨g,i,k⟩:=h.pJ _ (.head _);exact amw (N:=N) (j:=t) λf d=>by rw[h.sound s x a.1 g a.2.1 f d,k f d,h.sound y t i b.1 b.2.1.symm f d] a.2.2 b.2.2 e
theorem jL.closed(h:jL E N zzD c [])(g:∀e∈E,∃p∈zzD,p.1<N.length/\p.2<N.length/\tn N p.1=e.1/\tn N p.2=e.2):uR E N c:=by
 have key:∀{i j},Rel c [] i j->c i=c j:=λh=>h c (λ_ _ e=>e) λp a=>X;refine⟨h.g,h.sound,λe k=>?_,λi j b d e m n=>?_⟩;let⟨p,a,o,r,s,t⟩:=g e k;exact⟨p.1,p.2,o,r,s,t,key (h.eqs p a)⟩;let⟨f,u⟩:=h.al i j b d e m n;refine⟨f,dw_ λq=>?_⟩;rw[aY_,aY_];have l:(ks N i).length=(ks N j).length:=by rw[nX h.g b,nX h.g d,f.2.2.2]
 by_cases v:q<(ks N i).length;grind;grind
end
section
variable{E:List (Tm×Tm)}{N N':aS}
theorem fL(a:∀i,i<N.length->N'[i]?=N[i]?)(hi:i<N.length):tn N' i=tn N i/\ks N' i=ks N i:=by grind[tn,ks]
theorem jL.grow(h:jL E N zzD c [])(v:∀p∈zzD,p.1<N.length/\p.2<N.length)(g':fR N')(K:N.length<=N'.length)(l:∀i,i<N.length->N'[i]?=N[i]?)(w:∀i,i<N.length->c' i=c i/\c i<N.length)(L:∀i,N.length<=i->c' i=i){y:Nat}(B:x<N'.length)(C:y<N'.length)(F:(tn N' x,tn N' y)∈E):jL E N' ((x,y)::zzD) c' [(x,y)]:=by have key:∀{i j P},i<N.length->j<N.length->Rel c [] i j->Rel c' P i j:=λn o h d g _=>g _ _ (by rw[(w _ n).1,(w _ o).1];exact h c (λ_ _ e=>e) λp l=>X);have r:∀i j,i<N'.length->j<N'.length->c' i=c' j->i=j\/i<N.length/\j<N.length/\c i=c j:=X;refine⟨g',λi j n o e=>?_,λp m=>?_,λp m=>?_,λi j n o e z A=>?_⟩;rcases r i j n o e with rfl|⟨g,k,e⟩;exactλf _=>rfl;intro f u;rw[(fL l g).1,(fL l k).1];exact h.sound i j g k e f u;cases ar_.1 m;exact⟨B,C,λf u=>u _ F⟩;rcases al_.1 m with rfl|m;exactλd _ k=>k _ (.head _);exact key (v p m).1 (v p m).2 (h.eqs p m);rcases r i j n o e with rfl|⟨g,k,e⟩;refine⟨.refl _,λq a b t s d _ _=>?_⟩;rw[t]at s;exact congrArg d (oJ_ s);rw[(fL l g).1]at z⊢;rw[(fL l k).1]at A⊢;rw[(fL l g).2,(fL l k).2];let⟨G,J⟩:=h.al i j g k e z A;refine⟨G,λq a b t s=>key ?_ ?_ (J q a b t s)⟩;have:=h.g.lt i g a (as_ t);omega;have:=h.g.lt j k b (as_ s);omega
end
def wY:List Int->Prop|[]=>True|x::l=>(∀y∈l,x<y)/\wY l
theorem JD:∀{l m:List Int},wY l->wY m->(∀x,x∈l↔x∈m)->l=m
 |[],[],_,_,_=>rfl|[],y::m,_,_,h=>by have:=(h y).2 aB;cases this|x::l,[],_,_,h=>by have:=(h x).1 aB;cases this|x::l,y::m,c,d,h=>by
  have e:x=y:=by have a:=(h x).1 aB;have b:=(h y).2 aB;rcases al_.1 a with a|a;grind;rcases al_.1 b with b|b;grind;have:=c.1 y b;have:=d.1 x a;omega
  subst e;refine congrArg _ (JD c.2 d.2 λz=>⟨λf=>?_,λf=>?_⟩);rcases al_.1 ((h z).1 X) with rfl|g;exact absurd (c.1 _ f) Z;grind;rcases al_.1 ((h z).2 X) with rfl|g;exact absurd (d.1 _ f) Z;grind
theorem Dr{p:Int->Bool}:∀{l:List Int},wY l->wY (l.filter p)|[],_=>trivial|x::l,h=>by rw[cj_];split;exact⟨λy a=>h.1 y (bT_.1 a).1,Dr h.2⟩;exact Dr h.2
structure Ft(E:List (Tm×Tm))(s:Int->Tm)(l:List Int):Prop where
 c:He E s
 a:wY l
 m:∀v,v∈l↔s v≠vr v
theorem Ft.uniq{E c:List (Tm×Tm)}{s b:Int->Tm}{d:List Int}(h:Ft E s l)(a:Ft c b d)(e:∀f,yd E f↔yd c f):s=b/\l=d:=by have c':He E b:=⟨a.c.wf,a.c.idem,a.c.low,(e _).2 a.c.Vd,λf g=>a.c.gen f ((e f).1 g)⟩;cases h.c.uniq c';exact⟨rfl,JD h.a a.a λv=>(h.m v).trans (a.m v).symm⟩
def VC(a:Tm->Bool)(s:Int->Tm)(l:List Int):List Bd×Int:=if l.any λv=>a (s v) then([],6) else(l.map λv=>⟨v,s v⟩,0)
open Classical in noncomputable def ou(a:Tm->Bool)(E:List (Tm×Tm)):List Bd×Int:=if h:∃p:(Int->Tm)×List Int,Ft E p.1 p.2 then VC a h.choose.1 h.choose.2 else([],13)
theorem MS{a:Tm->Bool}{E:List (Tm×Tm)}{s:Int->Tm}(h:Ft E s l):ou a E=VC a s l:=by have b:∃p:(Int->Tm)×List Int,Ft E p.1 p.2:=⟨(s,l),h⟩;unfold ou;rw[dif_pos b];let⟨c,d⟩:=b.choose_spec.uniq h λf=>ck_;rw[c,d]
theorem Az{a:Tm->Bool}{E:List (Tm×Tm)}(h:¬∃f,yd E f):ou a E=([],13):=by unfold ou;rw[dif_neg λ⟨p,b⟩=>h ⟨_,b.c.Vd⟩]
def ov(N:aS)(v:Int):Option Nat:=N.findIdx? λx=>x.1.k==1&&x.1.i==v
mutual def b8:aS->Tm->aS×Nat|N,⟨k,i,n,a⟩=>match if k=1 then ov N i else none with|some j=>(N,j)|none=>((cd N a).1++[(⟨k,i,n,a⟩,(cd N a).2)],(cd N a).1.length)def cd:aS->List Tm->aS×List Nat|N,[]=>(N,[])|N,x::l=>((cd (b8 N x).1 l).1,(b8 N x).2::(cd (b8 N x).1 l).2)end
structure xJ(N N':aS):Prop where
 g:fR N'
 le:N.length<=N'.length
 pre:∀i,i<N.length->N'[i]?=N[i]?
theorem xJ.trans{A B C:aS}(h:xJ A B)(k:xJ B C):xJ A C:=⟨k.g,aA_ h.le k.le,λi a=>(k.pre i (by have:=h.le;omega)).trans (h.pre i a)⟩
theorem xJ.tn{A B:aS}(h:xJ A B)(hi:i<A.length):tn B i=tn A i:=(fL h.pre hi).1
theorem Fs{N:aS}(h:ov N v=some j):j<N.length/\(tn N j).k=1/\(tn N j).i=v:=by unfold ov at h;let⟨a,b,_⟩:=List.findIdx?_eq_some_iff_getElem.1 h;simp only[au_,beq_iff_eq]at b;unfold tn;rw[aw_ a];exact⟨a,b⟩
theorem MR{N:aS}(h:ov N v=none):∀j,j<N.length->(tn N j).k=1->(tn N j).i≠v:=by grind[ov,tn]
theorem mZ{N:aS}{x:Tm×List Nat}:tn (N++[x]) N.length=x.1/\ks (N++[x]) N.length=x.2:=by unfold tn ks;simp
theorem SJ{N:aS}{t:Tm}{d:List Nat}(g:fR N)(h1:∀j∈d,j<N.length)(h2:t.a=d.map (tn N))(h3:eU t)(h4:t.k=1->∀j,j<N.length->(tn N j).k=1->(tn N j).i≠t.i):xJ N (N++[(t,d)]):=by have c:∀i,i<N.length->(N++[(t,d)])[i]?=N[i]?:=λi a=>bj_ a;have n:∀l:List Nat,(∀j∈l,j<N.length)->l.map (tn (N++[(t,d)]))=l.map (tn N):=λl o=>aQ_ λj b=>(fL c (o j b)).1;have m:∀i,i<(N++[(t,d)]).length->i<N.length\/i=N.length:=λi a=>X;refine⟨⟨λi a j b=>?_,λi a=>?_,λi a=>?_,λi j a b f k e=>?_⟩,X,c⟩;rcases m i a with h|rfl;rw[(fL c h).2]at b;exact g.lt i h j b;rw[mZ.2]at b;exact h1 j b;rcases m i a with h|rfl;rw[(fL c h).1,(fL c h).2,n _ λj b=>by have:=g.lt i h j b;omega];exact g.args i h;rw[mZ.1,mZ.2,n _ h1];exact h2;rcases m i a with h|rfl;rw[(fL c h).1];exact g.wf i h;rw[mZ.1];exact h3;rcases m i a with a|rfl<;>rcases m j b with b|rfl;rw[(fL c a).1]at f e;rw[(fL c b).1]at k e;exact g.one i j a b f k e;rw[(fL c a).1]at f e;rw[mZ.1]at k e;exact absurd e (h4 k i a f);rw[(fL c b).1]at k e;rw[mZ.1]at f e;exact absurd e.symm (h4 f j b k);rfl
mutual theorem rQ:∀(N:aS)(t:Tm),fR N->eU t->xJ N (b8 N t).1/\(b8 N t).2<(b8 N t).1.length/\tn (b8 N t).1 (b8 N t).2=t
 |N,⟨k,i,n,a⟩,g,c=>by
  rw[b8];by_cases d:k=1;rw[if_pos d];have f:=c;rw[eU,if_pos d]at f;obtain⟨rfl,rfl⟩:=f;subst d;cases q:ov N i with|some j =>let⟨b,h,m⟩:=Fs q;refine⟨⟨g,ad_ _,λ_ _=>rfl⟩,b,?_⟩;rw[SF (g.wf j b) h,m,vr]|none =>refine⟨?_,?_,?_⟩;grind[cd,SJ,MR];grind;simp only[cd];exact mZ.1
  rw[if_neg d];have f:=c;rw[eU,if_neg d]at f;let⟨b,h,m⟩:=Jw N a g f.1;refine⟨b.trans (SJ b.g h m.symm c λe=>absurd e d),?_,?_⟩;simp;exact mZ.1;theorem Jw:∀(N:aS)(l:List Tm),fR N->eW l->xJ N (cd N l).1/\(∀j∈(cd N l).2,j<(cd N l).1.length)/\(cd N l).2.map (tn (cd N l).1)=l|N,[],g,_=>by rw[cd];exact⟨⟨g,ad_ _,λ_ _=>rfl⟩,λj o=>X,rfl⟩|N,x::l,g,c=>by rw[eW]at c;let⟨b,h,m⟩:=rQ N x g c.1;let⟨p,r,k3⟩:=Jw (b8 N x).1 l b.g c.2;rw[cd];refine⟨b.trans p,λj o=>?_,?_⟩;rcases al_.1 o with rfl|o;have:=p.le;simp only;omega;grind;simp only[aH_,k3,p.tn h,m];end
def TF(N:aS)(c:Nat->Nat)(sh:Nat->Option Nat)(lo:Nat->Int):Nat->Nat->Tm|0,_=>default|m+1,C=>match sh C with|none=>vr (lo C)|some s=>⟨(tn N s).k,(tn N s).i,(tn N s).n,(ks N s).map λj=>TF N c sh lo m (c j)⟩
section
variable{E:List (Tm×Tm)}{N:aS}{r:Nat->Nat}
theorem Vf(hC:fR N)(hs:∀C s,sh C=some s->s<N.length/\c s=C/\(tn N s).k≠1)(b:uS N c r):∀(m a C:Nat),r C<m->r C<a->TF N c sh lo m C=TF N c sh lo a C|0,_,C,h,_=>Z|m+1,0,C,_,h=>Z|m+1,a+1,C,h,k=>by rw[TF,TF];cases e:sh C with|none=>rfl|some s =>let⟨d,f,g⟩:=hs C s e;simp only[Tm.mk.injEq,true_and];refine aQ_ λj i=>?_;have:=b s d g j i;rw[f]at this;exact Vf hC hs b m a (c j) Z Z
def TC(N:aS)(c:Nat->Nat)(sh:Nat->Option Nat)(lo:Nat->Int)(r:Nat->Nat)(C:Nat):Tm:=TF N c sh lo (r C+1) C
theorem ahA(hC:fR N)(hs:∀C s,sh C=some s->s<N.length/\c s=C/\(tn N s).k≠1)(a:uS N c r){s:Nat}(e:sh C=some s):TC N c sh lo r C=⟨(tn N s).k,(tn N s).i,(tn N s).n,(ks N s).map λj=>TC N c sh lo r (c j)⟩:=by let⟨b,d,f⟩:=hs C s e;rw[TC,TF,e];simp only[Tm.mk.injEq,true_and];refine aQ_ λj g=>?_;have:=a s b f j g;rw[d]at this;exact Vf hC hs a _ _ (c j) Z Z
theorem ahB(e:sh C=none):TC N c sh lo r C=vr (lo C):=by rw[TC,TF,e]
theorem Pt(hC:uR E N c)(hs:∀C s,sh C=some s->s<N.length/\c s=C/\(tn N s).k≠1)(m:uS N c r)(n:∀i,i<N.length->sh (c i)=none->∀j,j<N.length->c j=c i->(tn N j).k=1)(o:∀i,i<N.length->sh (c i)=none->∃j,j<N.length/\c j=c i/\lo (c i)=(tn N j).i/\∀g,g<N.length->c g=c i->(tn N j).i<=(tn N g).i):Dq N c (TC N c sh lo r):=by
 refine⟨λi a h=>?_,λi a p=>?_⟩;cases e:sh (c i) with|none=>exact absurd (n i a e i a rfl) h|some s =>
  let⟨b,d,f⟩:=hs _ s e;let⟨⟨q,t,u,x⟩,v⟩:=hC.al i s a b d.symm h f;rw[ahA hC.g hs m e,q,t,u];have k:∀l:List Nat,l.map (λj=>TC N c sh lo r (c j))=(l.map c).map (TC N c sh lo r):=λl=>by rw[bk_];rfl
  rw[k,k,v]
 cases e:sh (c i) with|none =>let⟨j,b,d,f,w⟩:=o i a e;exact⟨j,b,d,by rw[ahB e,f],w⟩|some s =>let⟨b,d,f⟩:=hs _ s e;exact absurd (p s b d) f
end
def kc:Nat->List Nat->Nat->Option (List Nat×Nat)|0,_,_=>none|m+1,up,k=>match up[k]? with|none=>none|some p=>if p=k then some (up,k) else match up[p]? with|none=>none|some q=>kc m (up.set k q) q
theorem Lg:∀{m:Nat}{up:List Nat}{k:Nat}{r:List Nat×Nat},kc m up k=some r->kc (m+1) up k=some r|0,_,_,_,h=>by cases h|m+1,up,k,r,h=>by rw[kc]at h;rw[kc];split at h;grind;rename_i p a;split at h;grind;rename_i e;split at h;grind;rename_i q b;simp only[a,if_neg e,b];exact Lg h
theorem ado{a:Nat}{k:Nat}(h:kc m up k=some r)(b:m<=a):kc a up k=some r:=by induction b with|refl=>exact h|step _ c=>exact Lg c
theorem aaj{b:Nat}{k:Nat}{a:List Nat×Nat}(h:kc m up k=some r)(c:kc b up k=some a):r=a:=by grind[ado]
open Classical in noncomputable def lB(up:List Nat)(k:Nat):Option (List Nat×Nat):=if h:∃p:Nat×List Nat×Nat,kc p.1 up k=some p.2 then some h.choose.2 else none
theorem adp{k:Nat}(h:kc m up k=some r):lB up k=some r:=by have a:∃p:Nat×List Nat×Nat,kc p.1 up k=some p.2:=⟨(m,r),h⟩;unfold lB;rw[dif_pos a,aaj a.choose_spec h]
theorem DU{k:Nat}(h:lB up k=some r):∃m,kc m up k=some r:=by unfold lB at h;split at h;grind;grind
def cw(up:List Nat)(i:Nat):Nat:=up[i]?.getD i
structure UF(up:List Nat)(c h:Nat->Nat):Prop where
 lt:∀i,i<up.length->cw up i<up.length
 rt:∀i,i<up.length->cw up (c i)=c i/\c i<up.length
 st:∀i,i<up.length->c (cw up i)=c i
 fx:∀i,i<up.length->cw up i=i->c i=i
 ht:∀i,i<up.length->cw up i≠i->h (cw up i)<h i
theorem Kw(hi:i<up.length):up[i]?=some (cw up i):=by grind[cw]
theorem qu{k v:Nat}(a:k<up.length)(i:Nat):cw (up.set k v) i=if i=k then v else cw up i:=by grind[cw]
theorem UF.cc(a:UF up c h)(hi:i<up.length):c (c i)=c i:=a.fx _ (a.rt i hi).2 (a.rt i hi).1
theorem UF.half(a:UF up c h){k:Nat}(d:k<up.length):UF (up.set k (cw up (cw up k))) c h:=by
 have g:=a.lt k d;have p:=a.lt _ g;refine⟨λi b=>?_,λi b=>?_,λi b=>?_,λi b e=>?_,λi b e=>?_⟩;all_goals rw[br_]at b
 rw[qu d,br_];split;grind;exact a.lt i b;rw[qu d,br_];let⟨q,n⟩:=a.rt i b;refine⟨?_,n⟩;split;grind;grind;rw[qu d];split;rename_i e;subst e;rw[a.st _ g,a.st _ b];exact a.st i b;rw[qu d]at e;split at e;rename_i f;subst f;by_cases j:cw up i=i;exact a.fx i b j;have o:=a.ht i b j;by_cases l:cw up (cw up i)=cw up i;grind;have m:=a.ht _ g l;rw[e]at m;omega;exact a.fx i b e;rw[qu d]at e⊢;split at e;rename_i f;rw[if_pos f];subst f;by_cases j:cw up i=i;grind;have o:=a.ht i b j;by_cases l:cw up (cw up i)=cw up i;grind;have m:=a.ht _ g l;omega;rename_i f;rw[if_neg f];exact a.ht i b e
theorem UF.root{c h:Nat->Nat}:∀(a:Nat){up:List Nat}{k:Nat},UF up c h->k<up.length->h k<a->∃m f,kc m up k=some (f,c k)/\UF f c h/\f.length=up.length
 |0,_,_,_,_,i=>Z|a+1,up,k,b,d,i=>by
  by_cases e:cw up k=k;refine⟨1,up,?_,b,rfl⟩;rw[kc,Kw d];simp only[if_pos e,b.fx k d e];have g:=b.lt k d;have p:=b.lt _ g;have q:=b.ht k d e;have j:h (cw up (cw up k))<a:=by by_cases l:cw up (cw up k)=cw up k;grind;have:=b.ht _ g l;omega
  let⟨m,f,n,o,r⟩:=UF.root a (b.half d) X j;refine⟨m+1,f,?_,o,X⟩;rw[kc,Kw d];simp only[if_neg e,Kw g,n,b.st _ g,b.st _ d]
theorem UF.lB(b:UF up c h){k:Nat}(d:k<up.length):∃a,lB up k=some (a,c k)/\UF a c h/\a.length=up.length:=by let⟨m,a,e,f,g⟩:=UF.root _ b d (bm_ _);exact⟨a,adp e,f,g⟩
theorem UF.merge(f:UF up c h)(k:a<up.length)(g:b<up.length)(l:c a=a)(m:c b=b)(n:a≠b):UF (up.set b a) (iN c a b) λi=>if c i=b then h i+h a+1 else h i:=by
 have o:cw up a=a:=by have:=(f.rt a k).1;rwa[l]at this
 refine⟨λi d=>?_,λi d=>?_,λi d=>?_,λi d e=>?_,λi d e=>?_⟩;all_goals rw[br_]at d
 rw[qu g,br_];split;grind;exact f.lt i d;rw[qu g,br_];by_cases e:c i=b;grind[iN];rw[show iN c a b i=c i from if_neg e,if_neg e];exact f.rt i d;rw[qu g];unfold iN;split;grind;rw[f.st i d];rw[qu g]at e;unfold iN;split at e;grind;rename_i j;have:=f.fx i d e;rw[this,if_neg j];rw[qu g]at e⊢;split at e;grind;rename_i j;have:=f.ht i d e;simp only[if_neg j,f.st i d];split<;>omega
def dk(sh:List (Int×Int))(C:Nat):Option Nat:=(aH sh (C:Int)).map Int.toNat
def tc(s t:Tm):Bool:=s.k==t.k&&s.i==t.i&&decide (s.n.toList=t.n.toList)&&decide (s.a.length=t.a.length)
def o_(sh:List (Int×Int))(a b:Nat):List (Int×Int):=match aH sh (b:Int) with|some k=>(match aH sh (a:Int) with|some _=>sh|none=>gU sh a k)|none=>sh
def oc(ls:List (Int×Int))(a b:Nat):List (Int×Int):=match aH ls (b:Int) with|some v=>(match aH ls (a:Int) with|some w=>if v<w then gU ls a v else ls|none=>gU ls a v)|none=>ls
structure JS where
 up:List Nat
 sh:List (Int×Int)ls:List (Int×Int)
noncomputable def jK(N:aS):Nat->List (Nat×Nat)->JS->Option (Bool×JS)|0,_,_=>none|m+1,ps,s=>if 1099511627776<ps.length then none else match ps.getLast? with|none=>some (true,s)|some p=>match lB s.up p.1 with|none=>none|some (e,a)=>match lB e p.2 with|none=>none|some (c,b)=>if a=b then jK N m ps.dropLast ⟨c,s.sh,s.ls⟩ else match aH s.sh (a:Int),aH s.sh (b:Int) with
     |some i,some k=>match N[i.toNat]?,N[k.toNat]? with|some (t,l),some (f,d)=>if 0<=i/\0<=k then if tc t f then if l.length=d.length then jK N m (ps.dropLast++l.zip d) ⟨c.set b a,o_ s.sh a b,oc s.ls a b⟩ else none else some (false,⟨c,s.sh,s.ls⟩) else none|_,_=>none
     |_,_=>jK N m ps.dropLast ⟨c.set b a,o_ s.sh a b,oc s.ls a b⟩
def wT(N:aS)(c:Nat->Nat)(C:Nat):Option Int->Prop|none=>∀j,j<N.length->c j=C->(tn N j).k≠1|some v=>(∃j,j<N.length/\c j=C/\(tn N j).k=1/\(tn N j).i=v)/\∀j,j<N.length->c j=C->(tn N j).k=1->v<=(tn N j).i
structure qY(E:List (Tm×Tm))(N:aS)(zzD:List (Nat×Nat))(c:Nat->Nat)(ps:List (Nat×Nat))(s:JS):Prop where
 gi:jL E N zzD c ps
 uf:∃h,UF s.up c h
 len:s.up.length=N.length
 pos:∀C i,aH s.sh C=some i->0<=i
 B8:∀C,C<N.length->c C=C->jI N c C (dk s.sh C)aY:∀C,C<N.length->c C=C->wT N c C (aH s.ls (C:Int))ZI:∀C:Nat,N.length<=C->aH s.sh (C:Int)=none
 frl:∀C:Nat,N.length<=C->aH s.ls (C:Int)=none
def iG(c:Nat->Nat):Nat->Nat|0=>0|n+1=>iG c n+if c n=n then 1 else 0
theorem NZ{c d:Nat->Nat}(h:∀i,d i=i->c i=i):∀n,iG d n<=iG c n|0=>ad_ _|n+1=>by have:=NZ h n;rw[iG,iG];by_cases e:d n=n;grind;grind
theorem A0{c d:Nat->Nat}(h:∀i,d i=i->c i=i){b:Nat}(a:c b=b)(f:d b≠b):∀n,b<n->iG d n<iG c n|0,g=>Z|n+1,g=>by rw[iG,iG];by_cases e:b=n;subst e;have:=NZ h b;rw[if_pos a,if_neg f];omega;have:=A0 h a f n Z;by_cases e:d n=n;grind;grind
theorem J8(c:Nat->Nat):∀n,iG c n<=n|0=>ad_ _|n+1=>by have:=J8 c n;rw[iG];split<;>omega
theorem DN{s t:Tm}:tc s t=true↔alike s t:=by grind[Y1,tc,alike]
theorem Kx(d:a≠b)(e:c a=a):iN c a b i=i->c i=i:=by grind[iN]
theorem yQ{N:aS}(hi:i<N.length):N[i]?=some (tn N i,ks N i):=by grind[tn,ks]
def orS:Option Nat->Option Nat->Option Nat|some i,_=>some i|none,y=>y
def Mr:Option Int->Option Int->Option Int|some w,some v=>some (if v<w then v else w)|some w,none=>some w|none,x=>x
theorem amx{sh:List (Int×Int)}(hC:C≠b)(f:a≠b):dk (o_ sh a b) C=if C=a then orS (dk sh a) (dk sh b) else dk sh C:=by
 unfold dk o_;by_cases e:C=a;subst e;rw[if_pos rfl];cases d:aH sh (b:Int) with|none=>cases c:aH sh (C:Int)<;>simp[c,orS]|some k =>cases c:aH sh (C:Int) with|none=>simp[c9,orS]|some i=>simp[c,orS]
 rw[if_neg e];cases d:aH sh (b:Int) with|none=>rfl|some k =>cases c:aH sh (a:Int) with|none=>simp only[c9];rw[if_neg Z]|some i=>rfl
theorem aqz{ls:List (Int×Int)}(hC:C≠b)(f:a≠b):aH (oc ls a b) (C:Int)=if C=a then Mr (aH ls (a:Int)) (aH ls (b:Int)) else aH ls (C:Int):=by
 unfold oc;by_cases e:C=a;subst e;rw[if_pos rfl];cases d:aH ls (b:Int) with|none=>cases c:aH ls (C:Int)<;>simp[c,Mr]|some k =>cases c:aH ls (C:Int) with|none=>simp[c9,Mr]|some i =>simp only[Mr];split;grind[c9];grind
 rw[if_neg e];cases d:aH ls (b:Int) with|none=>rfl|some k =>cases c:aH ls (a:Int) with|none=>simp only[c9];rw[if_neg Z]|some i =>split;grind[c9];rfl
theorem jI.merge{N:aS}{x y:Option Nat}(h:jI N c a x)(j:jI N c b y)(l:a≠b):jI N (iN c a b) a (orS x y):=by cases x with|some i =>let⟨d,f,g⟩:=h;refine⟨d,?_,g⟩;unfold iN;rw[f,if_neg l]|none =>cases y with|some i =>let⟨d,f,g⟩:=j;refine⟨d,?_,g⟩;unfold iN;rw[f,if_pos rfl]|none =>intro i k e;unfold iN at e;split at e;rename_i m;exact j i k m;exact h i k e
theorem wT.merge{N:aS}{x y:Option Int}(k:wT N c a x)(h:wT N c b y)(A:a≠b):wT N (iN c a b) a (Mr x y):=by
 have p:∀j,c j=a->iN c a b j=a:=λj e=>by grind[iN]
 have mb:∀j,c j=b->iN c a b j=a:=λj e=>by grind[iN]
 have f:∀j,iN c a b j=a->c j=a\/c j=b:=λj e=>by grind[iN]
 cases x with
 |some w =>let⟨⟨j,r,s,t,u⟩,B⟩:=k;cases y with|some v =>let⟨⟨i,l,m,n,o⟩,z⟩:=h;simp only[Mr];split;refine⟨⟨i,l,mb i m,n,o⟩,λq d e g=>?_⟩;rcases f q e with e|e;grind;grind;refine⟨⟨j,r,p j s,t,u⟩,λq d e g=>?_⟩;rcases f q e with e|e;grind;grind|none =>refine⟨⟨j,r,p j s,t,u⟩,λq d e g=>?_⟩;rcases f q e with e|e;grind;exact absurd g (h q d e)
 |none =>cases y with|some v =>let⟨⟨i,l,m,n,o⟩,z⟩:=h;refine⟨⟨i,l,mb i m,n,o⟩,λq d e g=>?_⟩;rcases f q e with e|e;exact absurd g (k q d e);grind|none =>intro q d e;rcases f q e with e|e;exact k q d e;exact h q d e
theorem Hg(hC:C≠a)(d:C≠b)(j:Nat):iN c a b j=C↔c j=C:=by grind[iN]
theorem jI.other{N:aS}(hC:C≠a)(d:C≠b){x:Option Nat}(h:jI N c C x):jI N (iN c a b) C x:=by cases x with|some i=>exact⟨h.1,(Hg hC d i).2 h.2.1,h.2.2⟩|none=>exactλi f e=>h i f ((Hg hC d i).1 e)
theorem wT.other{N:aS}(hC:C≠a)(d:C≠b){x:Option Int}(h:wT N c C x):wT N (iN c a b) C x:=by cases x with|some v =>let⟨⟨j,f,g,k,l⟩,m⟩:=h;exact⟨⟨j,f,(Hg hC d j).2 g,k,l⟩,λq n e=>m q n ((Hg hC d q).1 e)⟩|none=>exactλi o e=>h i o ((Hg hC d i).1 e)
section
variable{E:List (Tm×Tm)}{N:aS}{s:JS}
theorem qY.merge{y:Nat}{P':List (Nat×Nat)}(h:qY E N zzD c (ps++[(x,y)]) s)(q:a=c x)(r:b=c y)(l:a≠b)(K:∀p,p∈P'↔p∈o9 N (dk s.sh a) (dk s.sh b)++ps)(L:∀i j,dk s.sh a=some i->dk s.sh b=some j->alike (tn N i) (tn N j)){u:List Nat}(M:∃h,UF u c h)(w:u.length=N.length):qY E N zzD (iN c a b) P' ⟨u.set b a,o_ s.sh a b,oc s.ls a b⟩:=by
 let⟨R,S,_⟩:=h.gi.pJ (x,y) aB;let⟨T,n⟩:=M;have z:a<N.length:=by rw[q,<-w];exact(n.rt x Z).2
 have A:b<N.length:=by rw[r,<-w];exact(n.rt y Z).2
 have o:c a=a:=by rw[q];exact n.cc Z
 have t:c b=b:=by rw[r];exact n.cc Z
 have B:=h.B8 a z o;have F:=h.B8 b A t;have P:jL E N zzD c ((x,y)::ps):=h.gi.perm λp=>X;have G:=P.merge (sa:=dk s.sh a) (sb:=dk s.sh b) X X L;rw[<-q,<-r]at G;refine⟨G.perm K,⟨_,n.merge Z Z o t l⟩,X,λC i d=>?_,λC m e=>?_,λC m e=>?_,λC m=>?_,λC m=>?_⟩;unfold o_ at d;cases v:aH s.sh (b:Int) with|none=>rw[v]at d;exact h.pos C i d|some k =>rw[v]at d;cases J:aH s.sh (a:Int) with|some j=>rw[J]at d;exact h.pos C i d|none =>rw[J]at d;simp only[c9]at d;split at d;cases oJ_ d;exact h.pos _ _ v;exact h.pos C i d
 have f:C≠b:=λg=>by grind[iN]
 rw[amx f l];split;rename_i g;subst g;exact B.merge F l;rename_i g;exact(h.B8 C m (Kx l o e)).other g f;have f:C≠b:=λg=>by grind[iN]
 rw[aqz f l];split;rename_i g;subst g;exact(h.aY C z o).merge (h.aY b A t) l;rename_i g;exact(h.aY C m (Kx l o e)).other g f;have Q:=h.ZI C m;unfold o_;split;grind[c9];grind;have Q:=h.frl C m;unfold oc;split;grind[c9];grind
theorem F_{U:Type}:∀(l:List U),l=[]\/∃a x,l=a++[x]|[]=>.inl rfl|x::l=>.inr (by rcases F_ l with rfl|⟨a,y,rfl⟩;exact⟨[],x,rfl⟩;exact⟨x::a,y,rfl⟩)
theorem af7{K:Nat}(hK:∀i,i<N.length->(ks N i).length<=K)(n m:Nat):∀{c:Nat->Nat}{ps:List (Nat×Nat)}{s:JS},iG c N.length=n->ps.length=m->m+K*n<=1099511627776->qY E N zzD c ps s ->∃f b d,jK N f ps s=some (b,d)/\(b=true->∃c',qY E N zzD c' [] d)/\(b=false->¬∃f,yd E f):=by induction n using Nat.strongRecOn generalizing m with|ind n g =>induction m with|zero =>intro c ps s B C hX h;cases bP_.1 C;exact⟨1,true,s,rfl,λ_=>⟨c,h⟩,λe=>X⟩|succ m F =>
   intro c ps s B C hX h;rcases F_ ps with rfl|⟨a,p,rfl⟩;grind;rw[av_,bf_]at C;let⟨x,y⟩:=p;let⟨hx,hy,ph⟩:=h.gi.pJ (x,y) aB;simp only at hx hy ph;let⟨T,v⟩:=h.uf;have hl:=h.len;let⟨u1,r1,Ia,l1⟩:=v.lB (k:=x) Z;let⟨o,r2,V,l2⟩:=Ia.lB (k:=y) Z;have W:jL E N zzD c ((x,y)::a):=h.gi.perm λp=>X;have e0:∀f,jK N (f+1) (a++[(x,y)]) s=if c x=c y then jK N f a ⟨o,s.sh,s.ls⟩ else match aH s.sh (c x:Int),aH s.sh (c y:Int) with
    |some i,some k=>match N[i.toNat]?,N[k.toNat]? with|some (t,l),some (t',l')=>if 0<=i/\0<=k then if tc t t' then if l.length=l'.length then jK N f (a++l.zip l') ⟨o.set (c y) (c x),o_ s.sh (c x) (c y),oc s.ls (c x) (c y)⟩ else none else some (false,⟨o,s.sh,s.ls⟩) else none|_,_=>none
    |_,_=>jK N f a ⟨o.set (c y) (c x),o_ s.sh (c x) (c y),oc s.ls (c x) (c y)⟩:=λf=>by rw[jK,if_neg X];simp only[List.getLast?_append,List.getLast?_singleton,Option.some_or,r1,r2,dN_]
   by_cases e:c x=c y;have q:qY E N zzD c a ⟨o,s.sh,s.ls⟩:=⟨W.pop e,⟨T,V⟩,X,h.pos,h.B8,h.aY,h.ZI,h.frl⟩;let⟨f,b,d,w,r⟩:=F B Z Z q;exact⟨f+1,b,d,X,r⟩;have la:c x<N.length:=by have:=(v.rt x Z).2;omega
   have lb:c y<N.length:=by have:=(v.rt y Z).2;omega
   have ca:c (c x)=c x:=v.cc Z;have G:c (c y)=c y:=v.cc Z;have sa:=h.B8 _ la ca;have sb:=h.B8 _ lb G;have z:iG (iN c (c x) (c y)) N.length<n:=by rw[<-B];refine A0 (λi=>Kx e ca) G (λJ=>?_) _ lb;unfold iN at J;rw[G,if_pos rfl]at J;exact e J
   have hmul:K*iG (iN c (c x) (c y)) N.length+K<=K*n:=by rw[<-Nat.mul_succ];exact dO_ K z
   have u:∃h,UF o c h:=⟨T,V⟩;cases e1:aH s.sh (c x:Int) with|none =>
    have f1:dk s.sh (c x)=none:=by grind[dk]
    have q:=h.merge rfl rfl e (P':=a) λp=>by grind[o9] (λi j hi=>X) u Z;let⟨f,b,d,w,r⟩:=g _ z a.length rfl rfl Z q;exact⟨f+1,b,d,X,r⟩|some i =>cases e2:aH s.sh (c y:Int) with
    |none =>
     have f1:dk s.sh (c y)=none:=by grind[dk]
     have q:=h.merge rfl rfl e (P':=a) λp=>by grind[dk,o9] (λi j _ hj=>X) u Z;let⟨f,b,d,w,r⟩:=g _ z a.length rfl rfl Z q;exact⟨f+1,b,d,X,r⟩|some k =>
     have f1:dk s.sh (c x)=some i.toNat:=by grind[dk]
     have f2:dk s.sh (c y)=some k.toNat:=by grind[dk]
     rw[f1]at sa;rw[f2]at sb;let⟨L,M,P⟩:=sa;let⟨Q,R,S⟩:=sb;have hp:0<=i/\0<=k:=⟨h.pos _ _ e1,h.pos _ _ e2⟩;cases A:tc (tn N i.toNat) (tn N k.toNat) with|false =>refine⟨1,false,⟨o,s.sh,s.ls⟩,?_,λe=>X,λ_=>?_⟩;grind[yQ];exact W.aez (s:=i.toNat) (t:=k.toNat) ⟨L,M,P⟩ ⟨Q,R,S⟩ λh=>by rw[DN.2 h]at A;cases A|true =>
      have aR:=DN.1 A;have GL:(ks N i.toNat).length=(ks N k.toNat).length:=by rw[nX h.gi.g L,nX h.gi.g Q,aR.2.2.2]
      have q:=h.merge rfl rfl e (P':=a++(ks N i.toNat).zip (ks N k.toNat)) λp=>by grind[o9,OI] (λi' j' hi hj=>X) u Z;let⟨f,b,d,w,r⟩:=g _ z _ rfl rfl X q;refine⟨f+1,b,d,?_,r⟩;rw[e0,if_neg e,e1,e2];simp only[yQ L,yQ Q,if_pos hp,A,if_true,if_pos GL];exact w
end
end Go.Proofs.YtbdcmpknicjopaaGreat
