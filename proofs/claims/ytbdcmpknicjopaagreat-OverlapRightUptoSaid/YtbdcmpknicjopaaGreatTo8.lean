import Derived.Test.YtbdcmpknicjopaaGreatProg
import Derived.Test.YtbdcmpknicjopaaGreatTo7
namespace Go.Proofs.YtbdcmpknicjopaaGreat
set_option linter.all false
set_option maxRecDepth 100000
open Go.RowKit Proofs.Tryz
variable{C a b j m n x:Nat}{K:List iu}{O:Hd}{P' ps zzD:List (Nat×Nat)}{Q:Exit->AA->ao->Prop}{S S':ao}{U:World}{Y:AA}{c c' h:Nat->Nat}{dr:Bool}{e v:Int}{ik:IntKind}{lo:Nat->Int}{sh:Nat->Option Nat}{up:List Nat}
variable{args:List AV}{l:List Int}{r:List Nat×Nat}{i:Nat}{P:Prop}
structure Tm where
 k:Int
 i:Int
 n:ByteArray
 a:List Tm
mutual def kN:Tm->List AV|⟨k,i,n,a⟩=>[iv k,iv i,.v (.string n),.sl false (TN a)]def TN:List Tm->List (List AV)|[]=>[]|x::l=>kN x::TN l end
theorem Np:∀l,TN l=l.map kN|[]=>by rw[TN];rfl|x::l=>by rw[TN,Np l];rfl
mutual def Tm.anT{p:Tm->Prop}{q:List Tm->Prop}(b:∀k i n a,q a->p ⟨k,i,n,a⟩)(h0:q [])(h1:∀x l,p x->q l->q (x::l)):∀t,p t|⟨k,i,n,a⟩=>b k i n a (Tm.ag1 b h0 h1 a)def Tm.ag1{p:Tm->Prop}{q:List Tm->Prop}(b:∀k i n a,q a->p ⟨k,i,n,a⟩)(h0:q [])(h1:∀x l,p x->q l->q (x::l)):∀l,q l|[]=>h0|x::l=>h1 x l (Tm.anT b h0 h1 x) (Tm.ag1 b h0 h1 l)end
theorem Tm.ind{p:Tm->Prop}(h:∀k i n (a:List Tm),(∀x∈a,p x)->p ⟨k,i,n,a⟩)(t:Tm):p t :=Tm.anT (q:=λl=>∀x∈l,p x) h (λx h=>Z) (λx l b c y d=>Z) t
def tl(O:Hd)(l:List Tm):AV:=aQ O kN false l
def jG(O:Hd)(x:Tm):List AV:=[iv x.k,iv x.i,.v (.string x.n),tl O x.a]
def tm(O:Hd)(x:Tm):AV:=.agg (jG O x)
theorem qQ(x:Tm):kN x=jG O x:=by let⟨k,i,n,a⟩:=x;rw[kN,Np,jG,tl,bN]
theorem uM(x:Tm):(kN x).length=4:=by rw[qQ (O:=.plain)];rfl
theorem Av(x:Tm):∀a∈kN x,Pure a:=by refine Tm.ind (p:=λx=>∀a∈kN x,Pure a) ?_ x;intro k i n a e b d;rw[kN]at d;simp only[al_,aB_,or_false]at d;rcases d with rfl|rfl|rfl|rfl;exact .v;exact .v;exact .v;rw[Np];exact .sl λrow f c g=>Z
theorem cQ(l:List Tm):Pure (tl O l):=eW λx _ a b=>Av x a b
theorem ur(x:Tm):∀a∈jG O x,Pure a:=by rw[<-qQ];exact Av x
def bM(x:Tm):Pure (tm O x):=.agg (ur x)
theorem cG{l:List Tm}{i:Int}{k:Nat}{x:Tm}(hi:i=(k:Int))(h:l[k]?=some x):idx (O.h (List.map kN) l) i=some (jG O x):=by rw[du hi h,qQ]
def cH{l:List Tm}:∀r∈O.h (List.map kN) l,r.length=4:=cJ λx=>uM x
structure At where
 n:ByteArray
 a:List Tm
structure Gl where
 op:Int
 n:ByteArray
 a:List Tm
structure Im where
 id:Int
 n:ByteArray
 a:List Tm
structure Bd where
 v:Int
 t:Tm
structure Fi where
 ud:Int
 ids:List Int
structure Rl where
 n:ByteArray
 aP:List At
 rem:List At
 guard:List Gl
 body:List Gl
 vars:Int
structure Dc where
 n:ByteArray
 ar:Int
structure Pg where
 ds:List Dc
 rs:List Rl
structure dp where
 goals:List Gl
 store:List Im
 binds:List Bd
 bE:List Fi
 known:List Gl
 next:Int
 fresh:Int
 failed:Bool
def atR(O:Hd)(x:At):List AV:=[.v (.string x.n),tl O x.a]
def sQ(O:Hd)(x:Gl):List AV:=[iv x.op,.v (.string x.n),tl O x.a]
def E4(O:Hd)(x:Im):List AV:=[iv x.id,.v (.string x.n),tl O x.a]
def bS(O:Hd)(x:Bd):List AV:=[iv x.v,iv x.t.k,iv x.t.i,.v (.string x.t.n),tl O x.t.a]
def I9(O:Hd)(x:Fi):List AV:=[iv x.ud,aQ O aH false x.ids]
def dW(O:Hd)(l:List At):AV:=aQ O (atR O) false l
def dI(O:Hd)(l:List Gl):AV:=aQ O (sQ O) false l
def mH(O:Hd)(l:List Im):AV:=aQ O (E4 O) false l
def a_(O:Hd)(l:List Bd):AV:=aQ O (bS O) false l
def mX(O:Hd)(l:List Fi):AV:=aQ O (I9 O) false l
def lV(O:Hd)(x:Rl):List AV:=[.v (.string x.n),dW O x.aP,dW O x.rem,dI O x.guard,dI O x.body,iv x.vars]
def YN(x:Dc):List AV:=[.v (.string x.n),iv x.ar]
def ir(O:Hd)(l:List Dc):AV:=aQ O YN false l
def QE(O:Hd)(l:List Rl):AV:=aQ O (lV O) false l
def oP(O:Hd)(x:Pg):List AV:=[ir O x.ds,QE O x.rs]
def CN(O:Hd)(x:dp):List AV:=[dI O x.goals,mH O x.store,a_ O x.binds,mX O x.bE,dI O x.known,iv x.next,iv x.fresh,.v (.bool x.failed)]
def at_(O:Hd)(x:At):AV:=.agg (atR O x)
def gl(O:Hd)(x:Gl):AV:=.agg (sQ O x)
def it(O:Hd)(x:Im):AV:=.agg (E4 O x)
def bd(O:Hd)(x:Bd):AV:=.agg (bS O x)
def fi(O:Hd)(x:Fi):AV:=.agg (I9 O x)
def rl(O:Hd)(x:Rl):AV:=.agg (lV O x)
def pg(O:Hd)(x:Pg):AV:=.agg (oP O x)
def yT(O:Hd)(x:dp):AV:=.agg (CN O x)
theorem a8(l:List Int){ex:Bool}:Pure (aQ O aH ex l):=eW λx _ a b=>by cases ae_.1 b;exact .v
theorem s_{a b:AV}(d:Pure a)(e:Pure b):∀c∈[a,b],Pure c:=Z
theorem M_{a b c:AV}(e:Pure a)(f:Pure b)(g:Pure c):∀d∈[a,b,c],Pure d:=Z
def EG(x:At):∀a∈atR O x,Pure a:=s_ .v (cQ _)
def AW(x:Gl):∀a∈sQ O x,Pure a:=M_ .v .v (cQ _)
def xl(x:Im):∀a∈E4 O x,Pure a:=M_ .v .v (cQ _)
theorem mD(x:Bd):∀a∈bS O x,Pure a:=by simp[bS,cQ,Pure.v,iv]
def TO(x:Fi):∀a∈I9 O x,Pure a:=s_ .v (a8 _)
theorem bP(l:List At):Pure (dW O l):=eW λx _ a b=>EG x a b
theorem a6(l:List Gl):Pure (dI O l):=eW λx _ a b=>AW x a b
theorem dY(l:List Im):Pure (mH O l):=eW λx _ a b=>xl x a b
theorem bH(l:List Bd):Pure (a_ O l):=eW λx _ a b=>mD x a b
theorem fm(l:List Fi):Pure (mX O l):=eW λx _ a b=>TO x a b
theorem D9(x:Rl):∀a∈lV O x,Pure a:=by simp[lV,bP,a6,Pure.v,iv]
def Qb(x:Dc):∀a∈YN x,Pure a:=s_ .v .v
theorem eM(l:List Dc):Pure (ir O l):=eW λx _ a b=>Qb x a b
theorem oH(l:List Rl):Pure (QE O l):=eW λx _ a b=>D9 x a b
def Ea(x:Pg):∀a∈oP O x,Pure a:=s_ (eM _) (oH _)
theorem TP(x:dp):∀a∈CN O x,Pure a:=by simp[CN,a6,dY,bH,fm,Pure.v,iv]
def ph(x:At):Pure (at_ O x):=.agg (EG x)
def kJ(x:Gl):Pure (gl O x):=.agg (AW x)
def zr(x:Im):Pure (it O x):=.agg (xl x)
def uO(x:Bd):Pure (bd O x):=.agg (mD x)
def C4(x:Fi):Pure (fi O x):=.agg (TO x)
def fQ(x:Rl):Pure (rl O x):=.agg (D9 x)
def lx(x:Pg):Pure (pg O x):=.agg (Ea x)
def nv(x:dp):Pure (yT O x):=.agg (TP x)
theorem H{P:Program}{rd:Bool}{n:Nat}{Q:Exit->AA->ao->Prop}(G:List Nat){a b:QF}{Y c:AA}{S':ao}(k:I P U rd n Q b c S')(h:nN G 400 a Y S=(b,c,S'):=by conv=>lhs;cbv):I P U rd n Q a Y S:=I.wi G 400 h k
section
variable{P:Program}{rd:Bool}{i:QI}{l:List QI}
theorem fq{ex:Exit}{r:AV}{a:List QR}{R:AV->ao->Prop}(k:R r S')(h:MM a ex Y S=some (r,S'):=by conv=>lhs;cbv):I P U rd n (vp a R) (.out ex []) Y S:=I.fin h k
theorem bq{e:Bool}(a:e=true->I P U rd n Q (.bp dr l K) (bX i.d Y (.v (.bool true))) S')(b:e=false->I P U rd n Q (.bp dr l K) (bX i.d Y (.v (.bool false))) S')(c:bJ Y.tm i.g=some true:=by rfl)(h:D P U dr i.q Y S (.v (.bool e)) S':=by exact D.bit rfl):I P U rd n Q (.bp dr (i::l) K) Y S:=I.bif c h a b
theorem b9(k:∀d,d=e->I P U rd n Q (.bp dr l K) (bX i.d Y (.v (.int ik d))) S')(a:bJ Y.tm i.g=some true:=by rfl)(h:D P U dr i.q Y S (.v (.int ik e)) S':=by exact D.len rfl):I P U rd n Q (.bp dr (i::l) K) Y S:=I.int a h k
theorem cN(k:∀d,d=e->I P U rd n Q (.bp dr l K) (bX i.d Y (.v (.int ik d))) S')(a:bJ Y.tm i.g=some true:=by rfl)(h:D P U dr i.q Y S (.v (.int ik e)) S':=by exact D.y7 rfl rfl rfl (by omega) (by omega)):I P U rd n Q (.bp dr (i::l) K) Y S:=I.int a h k
theorem iJ(k:∀d,d=e->I P U rd n Q (.bp dr l K) (bX i.d Y (.v (.int ik d))) S')(a:bJ Y.tm i.g=some true:=by rfl)(h:D P U dr i.q Y S (.v (.int ik e)) S':=by exact D.anz rfl (by omega) (by omega)):I P U rd n Q (.bp dr (i::l) K) Y S:=I.int a h k
end
theorem bT:(∀(p:Prop) [Decidable p],(decide p=true)=p)/\(∀(p:Prop) [Decidable p],(decide p=false)=¬p)/\(∀{Y:Type} [BEq Y] [LawfulBEq Y] (a b:Y),((a==b)=true)=(a=b))/\(∀{Y:Type} [BEq Y] [LawfulBEq Y] (a b:Y),((a==b)=false)=¬a=b)/\(∀{Y:Type} [BEq Y] [LawfulBEq Y] (a b:Y),((a !=b)=true)=¬a=b)/\(∀{Y:Type} [BEq Y] [LawfulBEq Y] (a b:Y),((a !=b)=false)=(a=b)) /\(∀b:Bool,¬b=true=(b=false))/\(∀b:Bool,¬b=false=(b=true))/\(∀b:Bool,((!b)=true)=(b=false))/\(∀b:Bool,((!b)=false)=(b=true))/\∀{Y:Type}(a b:Y),(a≠b)=¬a=b:=by refine⟨λp _=>aE,λp _=>aE,λa b=>aE,λa b=>aE,λa b=>aE,λa b=>aE,λb=>aE,λb=>aE,λb=>aE,λb=>aE,λa b=>rfl⟩
theorem sq(h:P:=by repeat' first|exact trivial|refine⟨?_,?_⟩;first|exact .aF rfl .v|exact .aF rfl zz|exact .aF rfl (Pure.bm (by first|exact .v|exact cQ _|exact a8 _|exact bP _|exact a6 _|exact dY _|exact bH _|exact fm _|exact eM _|exact oH _|exact bM _|exact ph _|exact kJ _|exact zr _|exact uO _|exact C4 _|exact fQ _|exact lx _|exact nv _|assumption))|exact .aF rfl .u|exact .new rfl rfl|exact .jz rfl rfl|exact .lM rfl|exact .pf rfl rfl|exact .vS rfl rfl|exact .aF rfl (.pt (by decide))|exact .aF rfl (.mp (by decide))|exact .aF rfl (.gr (by decide))|exact .aF rfl (.ob (by decide))|exact .aF rfl (.yl (by decide))):P:=h
theorem kq(h:P:=by repeat' first|exact trivial|refine⟨?_,?_⟩;first|exact .aF .v|exact .aF zz|exact .aF (Pure.bm (by first|exact .v|exact cQ _|exact a8 _|exact bP _|exact a6 _|exact dY _|exact bH _|exact fm _|exact eM _|exact oH _|exact bM _|exact ph _|exact kJ _|exact zr _|exact uO _|exact C4 _|exact fQ _|exact lx _|exact nv _|assumption))|exact .jz rfl rfl|exact .lM|exact .aF (.pt (by decide))|exact .aF (.mp (by decide))|exact .aF (.gr (by decide))|exact .pf rfl rfl|exact .vS rfl rfl|exact .aF .u):P:=h
theorem cq(h:P:=by exact⟨by repeat' first|exact trivial|refine⟨?_,?_⟩;first|exact .aF rfl .v|exact .aF rfl zz|exact .aF rfl (Pure.bm (by first|exact .v|exact cQ _|exact a8 _|exact bP _|exact a6 _|exact dY _|exact bH _|exact fm _|exact eM _|exact oH _|exact bM _|exact ph _|exact kJ _|exact zr _|exact uO _|exact C4 _|exact fQ _|exact lx _|exact nv _|assumption))|exact .aF rfl .u|exact .new rfl rfl|exact .jz rfl rfl|exact .lM rfl|exact .pf rfl rfl|exact .vS rfl rfl|exact .aF rfl (.pt (by decide))|exact .aF rfl (.mp (by decide))|exact .aF rfl (.gr (by decide))|exact .aF rfl (.ob (by decide))|exact .aF rfl (.yl (by decide)),rfl,trivial,rfl,rfl,rfl⟩):P:=h
abbrev FQ(n:FuncId)(f:Func):={q:QC×List QR //qx prog n q f.ntmps}
abbrev aD{n:FuncId}{f:Func}{q:QC×List QR}(hf:prog.funcs[n]?=some f)(hc:∀(xs:Array Value) (w:World),(callFunc n xs).run prog w=.ok (.enter n xs) w)(hq:Md progTables f=some q:=by conv=>lhs;cbv)(hT:prog.toTables=progTables:=by rfl)(hd:LY prog f=true:=by kernel_rfl):FQ n f:=⟨q,qx.of hf hq hT rfl hd hc⟩
abbrev ad(U:World):=aq prog U
theorem st{n:FuncId}{f:Func}{r:AV}{a:QF}{Y:AA}(x:FQ n f)(G:List Nat)(b:Pure r)(k:I prog U false f.ntmps (vp x.1.2 λc S=>aL S c r) a Y S)(d:args.length<=f.ntmps:=by exact aA_ rfl)(g:nN G 400 (.run x.1.1 []) ⟨qc args,[]⟩ ao.none_=(a,Y,S):=by conv=>lhs;cbv):ad U n args r:=x.2.awy d b (I.wi G 400 g k)
theorem sc{n:FuncId}{f:Func}{a:AV}{so:List (Nat×Ob)}(B N:Nat)(x:FQ n f)(k:I prog U false f.ntmps (vp x.1.2 λr S'=>∃m,lK B m N r a/\g7 B m N S' so/\tV B m (so.map (·.1))=true) (.run x.1.1 []) ⟨qc args,[]⟩ S)(b:args.length<=f.ntmps:=by exact aA_ rfl)(c:Nat.ble S.nx B=true:=by rfl)(d:Nat.ble B N=true:=by rfl):aG prog U n args S a (aw so N):=qx.awN B N so x.2 b c d k
section
attribute [local irreducible] aq aG D I
def RB:Nat:=1099511627776
mutual def Tm.ok:Tm->Prop|⟨k,i,n,a⟩=>a.length<=RB/\n.size<=RB/\dO a def dO:List Tm->Prop|[]=>True|x::l=>x.ok/\dO l end
theorem dO.mem:∀{l:List Tm},dO l->∀x∈l,x.ok|[],_,x,h=>Z|y::l,a,x,h=>by rw[dO]at a;rcases al_.1 h with rfl|h;grind;exact a.2.mem x h
theorem Tm.ok.out{t:Tm}(h:t.ok):t.a.length<=1099511627776/\t.n.size<=1099511627776/\dO t.a:=by let⟨k,i,n,a⟩:=t;rw[Tm.ok]at h;exact h
def ash:=aD func318 call318
def anU:=[3,2,0,4,6,8]
def asi:=aD func279 call279
def anV:=[4,2,0,1,5,7,9]
def asj:=aD func223 call223
def anW:=[0,1,4,5,9]
def asl:=aD func280 call280
def anX:=[0,1,4,5,9]
def asm:=aD func256 call256
def anY:=[0,2]
def asn:=aD func334 call334
def anZ:=[0,2]
def aso:=aD func194 call194
def aeJ:=[0,1,6,4,5,11,12,13,16,19]
def asp:=aD func319 call319
def aeK:=[0,1,6,4,5,11,12,13,16,19]
def asq:=aD func193 call193
def Cx:=[8,5,3,2,0,7,9,6,14]
def asr:=aD func292 call292
def H6:=[2,3,20,5,21,6,7,4,0,1,16,29,39,47]
def ass:=aD func320 call320
def yM:=[9,0,5,6,4,8,10,1,22]
def PC:=aD func222 call222
def mU:=[2,3,5,15,16,4,0,1,12,24,34,41,54,61]
def ast:=aD func153 call153
def nR:=[5,0,1,6,4,16,29]
def jb(k:Int):Int:=if k=1 then 0 else if k=0 then 1 else if k=2 then 2 else 3
def jy(a b:Int):Int:=if a<b then-1 else if b<a then 1 else 0
def yA(a b:ByteArray):Int:=if Op.bytesLess a.toList b.toList then-1 else if Op.bytesLess a.toList b.toList||a.toList==b.toList then 0 else 1
def Bj:List Int->Int|[]=>0|x::l=>if x=0 then Bj l else x
def fP(a b:Int):Int:=if a=0 then b else a
mutual def fJ:Tm->Tm->Int|⟨k,i,n,a⟩,y=>fP (jy (jb k) (jb y.k)) (if jb k=0\/jb k=1 then jy i y.i else if jb k=2 then fP (jy a.length y.a.length) (fP (yA n y.n) (jv a y.a)) else fP (jy k y.k) (fP (jy i y.i) (yA n y.n)))def jv:List Tm->List Tm->Int|[],m=>jy 0 m.length|x::l,[]=>1|x::l,y::m=>fP (fJ x y) (jv l m)end
theorem an0(k:Int):ad U 318 [iv k] (iv (jb k)):=by
 refine st ash anU .v ?_;repeat' first|refine bq (λa=>?_) λa=>?_<;>(try simp only[bT]at a)<;>(first|refine H anU ?_)|refine fq ?_
 all_goals refine aL.of_eq ?_;simp_all[jb,iv]
theorem uY(x:Tm):ad U 279 [tm O x] (iv (jb x.k)):=by
 let⟨k,i,n,a⟩:=x;refine st asi anV .v ?_;repeat' first|refine bq (λb=>?_) λb=>?_<;>(try simp only[bT]at b)<;>(first|refine H anV ?_)|refine fq ?_
 all_goals refine aL.of_eq ?_;simp_all[jb,iv]
theorem A4(a b:Int):ad U 223 [iv a,iv b] (iv (jy a b)):=by
 refine st asj anW .v ?_;repeat' first|refine bq (λc=>?_) λc=>?_<;>(try simp only[bT]at c)<;>(first|refine H anW ?_)|refine fq ?_
 all_goals refine aL.of_eq ?_;simp only[jy,iv];(repeat' split)<;>first|rfl|omega
theorem Nq(a b:ByteArray):ad U 280 [.v (.string a),.v (.string b)] (iv (yA a b)):=by
 refine st asl anX .v ?_;repeat' first|refine bq (λc=>?_) λc=>?_<;>(try simp only[bT]at c)<;>(first|refine H anX ?_)|refine fq ?_
 all_goals refine aL.of_eq ?_;simp_all[yA,iv]
theorem an1(a:Int):ad U 256 [iv a] (.v (.bool false)):=by
 refine st asm anY .v ?_;repeat' first|refine bq (λb=>?_) λb=>?_<;>(try simp only[bT]at b)<;>(first|exact dV b|refine H anY ?_)|refine fq ?_
 all_goals refine aL.of_eq ?_;simp_all
theorem an2(a:ByteArray):ad U 334 [.v (.string a)] (.v (.bool false)):=by
 refine st asn anZ .v ?_;repeat' first|refine bq (λb=>?_) λb=>?_<;>(try simp only[bT]at b)<;>(first|exact dV b|refine H anZ ?_)|refine fq ?_
 all_goals refine aL.of_eq ?_;simp_all
theorem Qy(a b:Int):ad U 194 [iv a,iv b] (iv (jy a b)):=by
 refine st aso aeJ .v ?_;repeat' first|refine I.op rfl (D.bU rfl (an1 _) ⟨.v,trivial⟩) ?_;refine H aeJ ?_|refine bq (λc=>?_) λc=>?_<;>(try simp only[bT]at c)<;>(first|refine H aeJ ?_)|refine fq ?_
 all_goals refine aL.of_eq ?_;simp only[jy,iv];(repeat' split)<;>first|rfl|omega
theorem an3(a b:ByteArray):ad U 319 [.v (.string a),.v (.string b)] (iv (yA a b)):=by
 refine st asp aeK .v ?_;repeat' first|refine I.op rfl (D.bU rfl (an2 _) ⟨.v,trivial⟩) ?_;refine H aeK ?_|refine bq (λc=>?_) λc=>?_<;>(try simp only[bT]at c)<;>(first|refine H aeK ?_)|refine fq ?_
 all_goals refine aL.of_eq ?_;simp_all[yA,iv]
theorem dA{a b:Int}(h:a=b):aL S (.v (.int .i64 a)) (iv b):=by subst h;exact aL.refl _
theorem aO{a b:Bool}(h:a=b):aL S (.v (.bool a)) (.v (.bool b)):=by subst h;exact aL.refl _
theorem an4(l:List Int)(d:l.length<=RB):ad U 193 [aQ O aH false l] (iv (Bj l)):=by
 rw[RB]at d;refine st asq Cx .v ?_;repeat' first|refine b9 λm e=>?_;(try rw[aA]at e);refine H Cx ?_
 refine I.eH (σ:=Int) 0 0 [] (λi=>[(3,.v (.int .i64 0)),(6,aQ O aH false l),(7,.v (.int .i64 m)),(8,.v (.int .i64 i))]) [] (λ_=>[]) (λi=>∃k:Nat,i=k/\k<=l.length/\Bj l=Bj (l.drop k)) (λi=>l.length-i.toNat) 0 ⟨0,rfl,aE,aE⟩ rfl cq ?_;rintro i⟨k,g,n,b⟩;refine H Cx ?_;by_cases c:k<l.length
 ·let⟨x,h,j⟩:∃x,l[k]?=some x/\l.drop k=x::l.drop (k+1):=⟨l[k],ax_ c,bM_ c⟩;rw[j,Bj]at b;repeat' first|refine I.op rfl (D.ind rfl rfl (du (l:=l) g h) (cJ λ_=>rfl)) ?_;refine H Cx ?_|refine bq (λa=>?_) λa=>?_<;>(try simp only[bT]at a)<;>(first|refine H Cx ?_)|refine cN λ_ _=>?_;refine H Cx ?_|refine xG Cx ?_|refine I.HK ?_;refine H Cx ?_|refine fq ?_
  grind[dA];rw[if_pos Z]at b;refine I.bu (σ:=Int) _ [] ?_ ?_ cq;grind;omega;omega
 ·skip;repeat' first|refine bq (λa=>?_) λa=>?_<;>(try simp only[bT]at a)<;>(first|refine H Cx ?_)|refine I.gp ?_;refine H Cx ?_|refine fq ?_
  omega;rw[b,ar_ (by omega)];exact dA rfl
end
instance:Inhabited Tm:=⟨⟨0,0,⟨#[]⟩,[]⟩⟩
theorem Zj{a b:ByteArray}:a.toList=b.toList↔a=b:=⟨λh=>by rw[ByteArray.toList_eq,ByteArray.toList_eq]at h;cases a;cases b;simp only[ByteArray.mk.injEq];exact Array.toList_inj.1 h,λh=>h ▸ rfl⟩
def vr(v:Int):Tm:=⟨1,v,⟨#[]⟩,[]⟩
mutual def mE(f:Int->Tm):Tm->Tm|⟨k,i,n,a⟩=>if k=1 then f i else⟨k,i,n,B_ f a⟩def B_(f:Int->Tm):List Tm->List Tm|[]=>[]|x::l=>mE f x::B_ f l end
theorem Du(f:Int->Tm)(v:Int):mE f (vr v)=f v:=by grind[vr,mE]
theorem OS(f:Int->Tm):∀l,B_ f l=l.map (mE f)|[]=>by rw[B_];rfl|x::l=>by rw[B_,OS f l];rfl
mutual def nK(v:Int):Tm->Prop|⟨k,i,n,a⟩=>if k=1 then i=v else jq v a def jq(v:Int):List Tm->Prop|[]=>False|x::l=>nK v x\/jq v l end
mutual def e_:Tm->Prop|⟨k,i,n,a⟩=>if k=1 then n=⟨#[]⟩/\a=[] else fy a/\(k=2\/a=[])def fy:List Tm->Prop|[]=>True|x::l=>e_ x/\fy l end
theorem fy.mem:∀{l:List Tm},fy l->∀x∈l,e_ x|y::l,h,x,a=>by rw[fy]at h;rcases al_.1 a with rfl|a;grind;exact h.2.mem x a
theorem MV:∀{l:List Tm},(∀x∈l,e_ x)->fy l|[],_=>by rw[fy];trivial|y::l,h=>by rw[fy];exact⟨h y aE,MV λx a=>h x Z⟩
theorem OT{v:Int}:∀{l:List Tm},jq v l↔∃x∈l,nK v x|[]=>by rw[jq];simp|y::l=>by rw[jq,OT];simp
theorem TQ{t:Tm}(h:e_ t)(b:t.k=1):t=vr t.i:=by let⟨k,i,n,a⟩:=t;obtain rfl:k=1:=b;rw[e_,if_pos rfl]at h;obtain⟨rfl,rfl⟩:=h;rfl
mutual theorem Wf{f:Int->Tm}:∀{t:Tm},e_ t->(∀w,nK w t->f w=vr w)->mE f t=t|⟨k,i,n,a⟩,h,b=>by rw[mE];split;rename_i c;rw[b i (by grind[nK])];exact(TQ h c).symm;rename_i c;rw[e_,if_neg c]at h;rw[TR h.1 λw d=>b w (by grind[nK])];theorem TR{f:Int->Tm}:∀{l:List Tm},fy l->(∀w,jq w l->f w=vr w)->B_ f l=l|[],_,_=>by rw[B_]|x::l,h,b=>by rw[fy]at h;rw[B_,Wf h.1 λw d=>b w (by grind[jq]),TR h.2 λw d=>b w (by grind[jq])];end
def yP(E:List (Tm×Tm))(f:Int->Tm):Prop:=∀e∈E,mE f e.1=mE f e.2
structure H7(E:List (Tm×Tm))(s:Int->Tm):Prop where
 wf:∀v,e_ (s v)idem:∀v w,nK w (s v)->s w=vr w
 low:∀v w,s v=vr w->w<=v
 Wg:yP E s
 gen:∀f,yP E f->∀v,f v=mE f (s v)
theorem H7.uniq{E:List (Tm×Tm)}{s t:Int->Tm}(hs:H7 E s)(c:H7 E t):s=t:=by
 have key:∀{f g:Int->Tm},H7 E f->H7 E g->∀v,f v=vr v->g v=vr v:=by
  intro f g j d v l;have b:=d.gen f j.Wg v;rw[l]at b;have m:(g v).k=1:=by have h:=d.wf v;generalize g v=t at b h;let⟨k,i,n,a⟩:=t;rw[mE]at b;split at b;grind;injection b with b;exact b.symm
  have e:=TQ (d.wf v) m;generalize(g v).i=w at e;rw[e,Du]at b;have o:=j.low _ _ b.symm;have p:=d.low _ _ e;rw[e,show w=v by omega]
 funext v;rw[hs.gen s hs.Wg v];have b:=c.gen s hs.Wg v;rw[<-hs.gen s hs.Wg v,b];exact Wf (c.wf v) λw h=>key c hs w (c.idem v w h)
abbrev aW:=List (Tm×List Nat)
def tn(N:aW)(i:Nat):Tm:=(N[i]?.getD default).1
def ks(N:aW)(i:Nat):List Nat:=(N[i]?.getD default).2
structure gm(N:aW):Prop where
 lt:∀i,i<N.length->∀j∈ks N i,j<i
 args:∀i,i<N.length->(tn N i).a=(ks N i).map (tn N)wf:∀i,i<N.length->e_ (tn N i)one:∀i j,i<N.length->j<N.length->(tn N i).k=1->(tn N j).k=1->(tn N i).i=(tn N j).i->i=j
def Sound(E:List (Tm×Tm))(N:aW)(i j:Nat):Prop:=∀f,yP E f->mE f (tn N i)=mE f (tn N j)
def alike(s t:Tm):Prop:=s.k=t.k/\s.i=t.i/\s.n=t.n/\s.a.length=t.a.length
structure u_(E:List (Tm×Tm))(N:aW)(c:Nat->Nat):Prop where
 g:gm N
 sound:∀i j,i<N.length->j<N.length->c i=c j->Sound E N i j
 eqs:∀e∈E,∃i j,i<N.length/\j<N.length/\tn N i=e.1/\tn N j=e.2/\c i=c j
 al:∀i j,i<N.length->j<N.length->c i=c j->(tn N i).k≠1->(tn N j).k≠1->alike (tn N i) (tn N j)/\(ks N i).map c=(ks N j).map c
structure DM(N:aW)(c:Nat->Nat)(T:Nat->Tm):Prop where shaped:∀i,i<N.length->(tn N i).k≠1->T (c i)=⟨(tn N i).k,(tn N i).i,(tn N i).n,(ks N i).map λj=>T (c j)⟩plain:∀i,i<N.length->(∀j,j<N.length->c j=c i->(tn N j).k=1)->∃j,j<N.length/\c j=c i/\T (c i)=vr (tn N j).i/\∀j',j'<N.length->c j'=c i->(tn N j).i<=(tn N j').i
theorem ym{f:Int->Tm}{t:Tm}(h:t.k≠1):mE f t=⟨t.k,t.i,t.n,t.a.map (mE f)⟩:=by let⟨k,i,n,a⟩:=t;rw[mE,if_neg h,OS]
theorem TS{f:Int->Tm}{t:Tm}(h:t.k=1):mE f t=f t.i:=by let⟨k,i,n,a⟩:=t;rw[mE,if_pos h]
theorem an5{E:List (Tm×Tm)}{N:aW}(h:Sound E N i j)(hi:(tn N i).k≠1)(a:(tn N j).k≠1)(b:¬alike (tn N i) (tn N j)):¬∃f,yP E f:=by rintro⟨f,c⟩;have:=h f c;rw[ym hi,ym a]at this;injection this with d e g k;exact b ⟨d,e,g,by simpa using congrArg List.length k⟩
theorem Yl{E:List (Tm×Tm)}{N:aW}(g:gm N)(d:i<N.length)(e:j<N.length)(h:Sound E N i j)(hi:(tn N i).k≠1)(k:(tn N j).k≠1){p:Nat}(m:(ks N i)[p]?=some a)(n:(ks N j)[p]?=some b):Sound E N a b:=by intro f o;have:=h f o;rw[ym hi,ym k]at this;injection this with q r s c;rw[g.args i d,g.args j e]at c;have:=congrArg (λl=>l[p]?) c;simpa[m,n] using this
mutual def cL:Tm->Nat|⟨k,i,n,a⟩=>bC a+1def bC:List Tm->Nat|[]=>0|x::l=>cL x+bC l end
theorem jx:∀{l:List Tm},∀x∈l,cL x<=bC l|y::l,x,h=>by rw[bC];rcases al_.1 h with rfl|h;omega;have:=jx x h;omega
def vc(N:aW)(c:Nat->Nat)(r:Nat->Nat):Prop:=∀i,i<N.length->(tn N i).k≠1->∀j∈ks N i,r (c j)<r (c i)
theorem NH{E:List (Tm×Tm)}{N:aW}(g:gm N)(hs:∀i j,i<N.length->j<N.length->c i=c j->Sound E N i j)(h:∃f,yP E f):∃r,vc N c r:=by
 let⟨f,k⟩:=h;have key:∀C,∃n,∀i,i<N.length->c i=C->cL (mE f (tn N i))=n:=by intro C;by_cases b:∃i,i<N.length/\c i=C;let⟨i,a,b⟩:=b;exact⟨_,λj d e=>by rw[hs j i d a (e.trans b.symm) f k]⟩;exact⟨0,λi a e=>absurd ⟨i,a,e⟩ b⟩
 refine⟨λC=>(key C).choose,λi a m j d=>?_⟩;have o:=g.lt i a j d;show(key (c j)).choose<(key (c i)).choose;rw[<-(key (c i)).choose_spec i a rfl,<-(key (c j)).choose_spec j X rfl,ym m,cL];have:=jx (l:=(tn N i).a.map (mE f)) (mE f (tn N j)) (by rw[g.args i a,bB_];exact aE_.2 ⟨j,d,rfl⟩);omega
section
variable{E:List (Tm×Tm)}{N:aW}{T:Nat->Tm}{r:Nat->Nat}
theorem OU(hC:u_ E N c)(g:DM N c T)(n:vc N c r){f:Int->Tm}(k:yP E f):∀(m i:Nat),r (c i)<m->i<N.length->mE f (tn N i)=mE f (T (c i))|0,i,h,_=>X|m+1,i,h,l=>by by_cases b:∀j,j<N.length->c j=c i->(tn N j).k=1;let⟨j,a,d,o,_⟩:=g.plain i l b;rw[o,hC.sound i j l a d.symm f k,TS (b j a d),vr,mE,if_pos rfl];let⟨j,a,d,e⟩:∃j,j<N.length/\c j=c i/\(tn N j).k≠1:=Z;rw[<-d,g.shaped j a e,hC.sound i j l a d.symm f k,ym e,ym (t:=⟨_,_,_,_⟩) e,hC.g.args j a];simp only[bB_,Tm.mk.injEq,true_and];refine aQ_ λp b=>?_;have q:=hC.g.lt j a p b;have s:=n j a e p b;exact OU hC g n k m p Z X
theorem H8(hC:u_ E N c)(b:DM N c T){f:Int->Tm}(e:∀i,i<N.length->(tn N i).k=1->f (tn N i).i=T (c i)):∀(m i:Nat),i<m->i<N.length->mE f (tn N i)=T (c i)|0,i,h,_=>X|m+1,i,h,a=>by by_cases d:(tn N i).k=1;grind[TS];rw[ym d,b.shaped i a d,hC.g.args i a];simp only[bB_,Tm.mk.injEq,true_and];refine aQ_ λp g=>?_;have j:=hC.g.lt i a p g;exact H8 hC b e m p X X
theorem KH(hC:u_ E N c)(o:DM N c T)(u:vc N c r):∀(m i:Nat),r (c i)<m->i<N.length->e_ (T (c i))/\∀w,nK w (T (c i))->∃j,j<N.length/\(tn N j).k=1/\(tn N j).i=w/\T (c j)=vr w|0,i,h,_=>X|m+1,i,h,v=>by by_cases d:∀j,j<N.length->c j=c i->(tn N j).k=1;let⟨j,b,g,y,_⟩:=o.plain i v d;rw[y];refine⟨by grind[vr,e_],λw q=>?_⟩;rw[vr,nK,if_pos rfl]at q;exact⟨j,b,d j b g,q,Z⟩;let⟨j,b,g,f⟩:∃j,j<N.length/\c j=c i/\(tn N j).k≠1:=Z;have z:∀p∈ks N j,_:=λp d=>KH hC o u m p (by have:=u j b f p d;rw[g]at this;omega) (by have:=hC.g.lt j b p d;omega);rw[<-g,o.shaped j b f,e_,if_neg f];refine⟨⟨MV λx A=>?_,?_⟩,λw q=>?_⟩;grind;have s:=hC.g.wf j b;have l:=hC.g.args j b;generalize tn N j=t at s l f;let⟨k,B,n,a⟩:=t;rw[e_,if_neg f]at s;refine s.2.imp_right λe=>?_;simp only at l;rw[e]at l;rw[List.map_eq_nil_iff.1 l.symm];rfl;grind[nK,OT]
open Classical in noncomputable def I7(N:aW)(c:Nat->Nat)(T:Nat->Tm)(v:Int):Tm:=if h:∃i,i<N.length/\(tn N i).k=1/\(tn N i).i=v then T (c h.choose) else vr v
theorem CE(g:gm N)(hi:i<N.length)(a:(tn N i).k=1):I7 N c T (tn N i).i=T (c i):=by unfold I7;have h:∃j,j<N.length/\(tn N j).k=1/\(tn N j).i=(tn N i).i:=⟨i,hi,a,rfl⟩;rw[dif_pos h,g.one _ _ h.choose_spec.1 hi h.choose_spec.2.1 a h.choose_spec.2.2]
theorem JR(h:¬∃i,i<N.length/\(tn N i).k=1/\(tn N i).i=v):I7 N c T v=vr v:=by grind[I7]
theorem P7(hC:u_ E N c)(d:DM N c T)(n:vc N c r):H7 E (I7 N c T):=by
 have l:∀v,(∃i,i<N.length/\(tn N i).k=1/\(tn N i).i=v/\I7 N c T v=T (c i))\/I7 N c T v=vr v:=λv=>by by_cases h:∃i,i<N.length/\(tn N i).k=1/\(tn N i).i=v;obtain⟨i,a,b,rfl⟩:=h;exact .inl ⟨i,a,b,rfl,CE hC.g a b⟩;grind[JR]
 refine⟨λv=>?_,λv w g=>?_,λv w g=>?_,λe q=>?_,λf s v=>?_⟩;rcases l v with⟨i,a,b,o,e⟩|e;rw[e];exact(KH hC d n _ i (bp_ _) a).1;grind[vr,e_];rcases l v with⟨i,a,b,o,e⟩|e;rw[e]at g;obtain⟨j,k,b,rfl,d⟩:=(KH hC d n _ i (bp_ _) a).2 w g;rw[CE hC.g k b,d];grind[vr,nK];rcases l v with⟨i,a,b,rfl,e⟩|e;rw[e]at g;by_cases t:∀j,j<N.length->c j=c i->(tn N j).k=1;let⟨j,k,m,u,x⟩:=d.plain i a t;rw[u,vr,vr,Tm.mk.injEq]at g;rw[<-g.2.1];exact x i a rfl;let⟨j,k,m,b⟩:∃j,j<N.length/\c j=c i/\(tn N j).k≠1:=Z;rw[<-m,d.shaped j k b,vr,Tm.mk.injEq]at g;exact absurd g.1 b;grind[vr];let⟨i,j,a,k,y,z,m⟩:=hC.eqs e q;have p:∀i,i<N.length->(tn N i).k=1->I7 N c T (tn N i).i=T (c i):=λi a b=>CE hC.g a b;rw[<-y,<-z,H8 hC d p _ i (bp_ _) a,H8 hC d p _ j (bp_ _) k,m];rcases l v with⟨i,a,b,rfl,e⟩|e;rw[e,<-OU hC d n s _ i (bp_ _) a,TS b];grind[vr,mE]
end
def Rel(c:Nat->Nat)(P:List (Nat×Nat))(i j:Nat):Prop:=∀d:Nat->Nat,(∀x y,c x=c y->d x=d y)->(∀p∈P,d p.1=d p.2)->d i=d j
structure jU(E:List (Tm×Tm))(N:aW)(zzD:List (Nat×Nat))(c:Nat->Nat)(P:List (Nat×Nat)):Prop where
 g:gm N
 sound:∀i j,i<N.length->j<N.length->c i=c j->Sound E N i j
 pV:∀p∈P,p.1<N.length/\p.2<N.length/\Sound E N p.1 p.2eqs:∀p∈zzD,Rel c P p.1 p.2al:∀i j,i<N.length->j<N.length->c i=c j->(tn N i).k≠1->(tn N j).k≠1->alike (tn N i) (tn N j)/\∀q a b:Nat,(ks N i)[q]?=some a->(ks N j)[q]?=some b->Rel c P a b
def alike.refl(t:Tm):alike t t:=⟨rfl,rfl,rfl,rfl⟩
def alike.symm{s t:Tm}(h:alike s t):alike t s:=⟨h.1.symm,h.2.1.symm,h.2.2.1.symm,h.2.2.2.symm⟩
def alike.trans{s t u:Tm}(h:alike s t)(k:alike t u):alike s u:=⟨h.1.trans k.1,h.2.1.trans k.2.1,h.2.2.1.trans k.2.2.1,h.2.2.2.trans k.2.2.2⟩
section
variable{E:List (Tm×Tm)}{N:aW}{P:List (Nat×Nat)}
def Rel.mono(h:Rel c P i j)(a:∀d:Nat->Nat,(∀x y,c' x=c' y->d x=d y)->(∀p∈P',d p.1=d p.2)->(∀x y,c x=c y->d x=d y)/\∀p∈P,d p.1=d p.2):Rel c' P' i j:=λd b e=>h d (a d b e).1 (a d b e).2
theorem jU.mono(h:jU E N zzD c P)(f:∀p∈P',p.1<N.length/\p.2<N.length/\Sound E N p.1 p.2)(o:∀d:Nat->Nat,(∀x y,c x=c y->d x=d y)->(∀p∈P',d p.1=d p.2)->∀p∈P,d p.1=d p.2):jU E N zzD c P':=by have key:∀{i j},Rel c P i j->Rel c P' i j:=λh=>h.mono λd g r=>⟨g,o d g r⟩;exact⟨h.g,h.sound,f,λp f=>key (h.eqs p f),λi j k l e m n=>⟨(h.al i j k l e m n).1,λq a b s t=>key ((h.al i j k l e m n).2 q a b s t)⟩⟩
def jU.perm(h:jU E N zzD c P)(b:∀p,p∈P'↔p∈P):jU E N zzD c P':=h.mono (λp a=>h.pV p ((b p).1 a)) λd _ e p a=>e p ((b p).2 a)
theorem jU.pop{y:Nat}(h:jU E N zzD c ((x,y)::P))(e:c x=c y):jU E N zzD c P:=h.mono (λp a=>h.pV p (.tail _ a)) λd a b p f=>Z
def iV(c:Nat->Nat)(a b:Nat)(i:Nat):Nat:=if c i=b then a else c i
def PD(N:aW)(i j:Nat):List (Nat×Nat):=(ks N i).zip (ks N j)
def pf(N:aW):Option Nat->Option Nat->List (Nat×Nat)|some s,some t=>PD N s t|_,_=>[]
theorem ai2{Y β:Type}{l:List Y}{m:List β}{q:Nat}{a:Y}{b:β}(c:l[q]?=some a)(d:m[q]?=some b):(a,b)∈l.zip m:=dx_.2 ⟨q,Z⟩
def jO(N:aW)(c:Nat->Nat)(C:Nat):Option Nat->Prop|none=>∀i,i<N.length->c i=C->(tn N i).k=1|some s=>s<N.length/\c s=C/\(tn N s).k≠1
theorem nY(g:gm N)(hi:i<N.length):(ks N i).length=(tn N i).a.length:=by rw[g.args i hi,bk_]
theorem aeL{y:Nat}{d:Nat->Nat}(h1:∀u v,iV c (c x) (c y) u=iV c (c x) (c y) v->d u=d v):(∀u v,c u=c v->d u=d v)/\d x=d y:=by grind[iV]
theorem abq{y:Nat}(hs:∀i j,i<N.length->j<N.length->c i=c j->Sound E N i j)(l:x<N.length)(b:y<N.length)(n:Sound E N x y):∀i j,i<N.length->j<N.length->iV c (c x) (c y) i=iV c (c x) (c y) j->Sound E N i j:=by intro i j d g e f a;have m:=n f a;unfold iV at e;split at e;rename_i h;split at e;rename_i k;rw[hs i y d b h f a,hs j y g b k f a];rw[hs i y d b h f a,<-m,hs x j l g e f a];rename_i h;split at e;rename_i k;rw[hs i x d l e f a,m,hs y j b g k.symm f a];exact hs i j d g e f a
theorem jU.merge{y:Nat}(h:jU E N zzD c ((x,y)::P)){sa sb:Option Nat}(k:jO N c (c x) sa)(l:jO N c (c y) sb)(aV:∀s t,sa=some s->sb=some t->alike (tn N s) (tn N t)):jU E N zzD (iV c (c x) (c y)) (pf N sa sb++P):=by
 let⟨hx,hy,pI⟩:=h.pV _ (.head _);have hs:=abq h.sound hx hy pI;let⟨Q,K⟩:=au (pf N sa sb);rw[<-K];have F:∀s t,sa=some s->sb=some t->Q=PD N s t:=λs t e1 e2=>by rw[K,e1,e2];rfl
 have key:∀{i j},Rel c ((x,y)::P) i j->Rel (iV c (c x) (c y)) (Q++P) i j:=λhr=>hr.mono λd m n=>by let⟨r,A⟩:=aeL m;refine⟨r,λp g=>?_⟩;rcases al_.1 g with rfl|g;grind;grind
 have S:∀i j,i<N.length->j<N.length->c i=c x->c j=c y->(tn N i).k≠1->(tn N j).k≠1->alike (tn N i) (tn N j)/\∀q a b:Nat,(ks N i)[q]?=some a->(ks N j)[q]?=some b->Rel (iV c (c x) (c y)) (Q++P) a b:=by intro i j o u L M v w;cases sa with|none=>exact absurd (k i o L) v|some s =>cases sb with|none=>exact absurd (l j u M) w|some t =>
    let⟨z,T,V⟩:=k;let⟨B,W,Si⟩:=l;let⟨a1,a2⟩:=h.al i s o z (L.trans T.symm) v V;let⟨b1,b2⟩:=h.al t j B u (W.trans M.symm) Si w;have R:=aV s t rfl rfl;refine⟨(a1.trans R).trans b1,λq a b G VJ=>?_⟩;have l1:q<(ks N i).length:=(aC_.1 G).1;have l2:(ks N i).length=(ks N s).length:=by rw[nY h.g o,nY h.g z,a1.2.2.2]
    have l3:(ks N s).length=(ks N t).length:=by rw[nY h.g z,nY h.g B,R.2.2.2]
    have Oo:(ks N s)[q]?=some ((ks N s)[q]'X):=ax_ _;have J:(ks N t)[q]?=some ((ks N t)[q]'X):=ax_ _;intro d m n;refine(key (a2 q _ _ G Oo) d m n).trans (Eq.trans ?_ (key (b2 q _ _ J VJ) d m n));have:=ai2 Oo J;exact n _ (List.mem_append_left _ (by rw[F s t rfl rfl];exact this))
 have ay8:∀i j,i<N.length->j<N.length->c i=c y->c j=c x->(tn N i).k≠1->(tn N j).k≠1->alike (tn N i) (tn N j)/\∀q a b:Nat,(ks N i)[q]?=some a->(ks N j)[q]?=some b->Rel (iV c (c x) (c y)) (Q++P) a b:=λi j o u L M v w=>by let⟨m,n⟩:=S j i u o M L w v;exact⟨m.symm,λq a b k l d r A=>(n q b a l k d r A).symm⟩
 refine⟨h.g,hs,λp g=>?_,λp g=>key (h.eqs p g),λi j o u e v w=>?_⟩;rcases aO_.1 g with g|g;cases sa with|none=>rw[K]at g;cases sb<;>cases g|some s =>cases sb with|none=>rw[K]at g;cases g|some t =>
   let⟨z,T,V⟩:=k;let⟨B,W,Si⟩:=l;rw[F s t rfl rfl]at g;let⟨q,C⟩:=dx_.1 g;unfold PD at C;let⟨p1,p2⟩:=p;rw[cH_]at C;have R:Sound E N s t:=λf hf=>by rw[h.sound s x z hx T f hf,pI f hf,h.sound y t hy B W.symm f hf]
   have m1:=h.g.lt s z p1 (as_ C.1);have m2:=h.g.lt t B p2 (as_ C.2);exact⟨Z,Z,Yl h.g z B R V Si C.1 C.2⟩
 exact h.pV p (.tail _ g);unfold iV at e;split at e;rename_i m;split at e;rename_i n;let⟨r,A⟩:=h.al i j o u (m.trans n.symm) v w;exact⟨r,λq a b k l=>key (A q a b k l)⟩;grind;rename_i m;split at e;grind;let⟨r,A⟩:=h.al i j o u e v w;exact⟨r,λq a b k l=>key (A q a b k l)⟩
theorem jU.afi{y:Nat}(h:jU E N zzD c ((x,y)::P)){s t:Nat}(a:jO N c (c x) (some s))(b:jO N c (c y) (some t))(e:¬alike (tn N s) (tn N t)):¬∃f,yP E f:=by let⟨g,i,k⟩:=h.pV _ (.head _);exact an5 (N:=N) (j:=t) λf d=>by rw[h.sound s x a.1 g a.2.1 f d,k f d,h.sound y t i b.1 b.2.1.symm f d] a.2.2 b.2.2 e
theorem jU.closed(h:jU E N zzD c [])(g:∀e∈E,∃p∈zzD,p.1<N.length/\p.2<N.length/\tn N p.1=e.1/\tn N p.2=e.2):u_ E N c:=by
 have key:∀{i j},Rel c [] i j->c i=c j:=λh=>h c (λ_ _ e=>e) λp a=>Z;refine⟨h.g,h.sound,λe k=>?_,λi j b d e m n=>?_⟩;let⟨p,a,o,r,s,t⟩:=g e k;exact⟨p.1,p.2,o,r,s,t,key (h.eqs p a)⟩;let⟨f,u⟩:=h.al i j b d e m n;refine⟨f,dy_ λq=>?_⟩;rw[bc_,bc_];have l:(ks N i).length=(ks N j).length:=by rw[nY h.g b,nY h.g d,f.2.2.2]
 by_cases v:q<(ks N i).length;grind;grind
end
section
variable{E:List (Tm×Tm)}{N N':aW}
theorem fY(a:∀i,i<N.length->N'[i]?=N[i]?)(hi:i<N.length):tn N' i=tn N i/\ks N' i=ks N i:=by grind[tn,ks]
theorem jU.grow(h:jU E N zzD c [])(v:∀p∈zzD,p.1<N.length/\p.2<N.length)(g':gm N')(K:N.length<=N'.length)(l:∀i,i<N.length->N'[i]?=N[i]?)(w:∀i,i<N.length->c' i=c i/\c i<N.length)(L:∀i,N.length<=i->c' i=i){y:Nat}(B:x<N'.length)(C:y<N'.length)(F:(tn N' x,tn N' y)∈E):jU E N' ((x,y)::zzD) c' [(x,y)]:=by have key:∀{i j P},i<N.length->j<N.length->Rel c [] i j->Rel c' P i j:=λn o h d g _=>g _ _ (by rw[(w _ n).1,(w _ o).1];exact h c (λ_ _ e=>e) λp l=>Z);have r:∀i j,i<N'.length->j<N'.length->c' i=c' j->i=j\/i<N.length/\j<N.length/\c i=c j:=Z;refine⟨g',λi j n o e=>?_,λp m=>?_,λp m=>?_,λi j n o e z A=>?_⟩;rcases r i j n o e with rfl|⟨g,k,e⟩;exactλf _=>rfl;intro f u;rw[(fY l g).1,(fY l k).1];exact h.sound i j g k e f u;cases ae_.1 m;exact⟨B,C,λf u=>u _ F⟩;rcases al_.1 m with rfl|m;exactλd _ k=>k _ (.head _);exact key (v p m).1 (v p m).2 (h.eqs p m);rcases r i j n o e with rfl|⟨g,k,e⟩;refine⟨.refl _,λq a b t s d _ _=>?_⟩;rw[t]at s;exact congrArg d (oJ_ s);rw[(fY l g).1]at z⊢;rw[(fY l k).1]at A⊢;rw[(fY l g).2,(fY l k).2];let⟨G,J⟩:=h.al i j g k e z A;refine⟨G,λq a b t s=>key ?_ ?_ (J q a b t s)⟩;have:=h.g.lt i g a (as_ t);omega;have:=h.g.lt j k b (as_ s);omega
end
def xD:List Int->Prop|[]=>True|x::l=>(∀y∈l,x<y)/\xD l
theorem Ki:∀{l m:List Int},xD l->xD m->(∀x,x∈l↔x∈m)->l=m
 |[],[],_,_,_=>rfl|[],y::m,_,_,h=>by have:=(h y).2 aE;cases this|x::l,[],_,_,h=>by have:=(h x).1 aE;cases this|x::l,y::m,c,d,h=>by
  have e:x=y:=by have a:=(h x).1 aE;have b:=(h y).2 aE;rcases al_.1 a with a|a;grind;rcases al_.1 b with b|b;grind;have:=c.1 y b;have:=d.1 x a;omega
  subst e;refine congrArg _ (Ki c.2 d.2 λz=>⟨λf=>?_,λf=>?_⟩);rcases al_.1 ((h z).1 Z) with rfl|g;exact absurd (c.1 _ f) X;grind;rcases al_.1 ((h z).2 Z) with rfl|g;exact absurd (d.1 _ f) X;grind
theorem DO{p:Int->Bool}:∀{l:List Int},xD l->xD (l.filter p)|[],_=>trivial|x::l,h=>by rw[List.filter_cons];split;exact⟨λy a=>h.1 y (cb_.1 a).1,DO h.2⟩;exact DO h.2
structure DN(E:List (Tm×Tm))(s:Int->Tm)(l:List Int):Prop where
 c:H7 E s
 a:xD l
 m:∀v,v∈l↔s v≠vr v
theorem DN.uniq{E c:List (Tm×Tm)}{s b:Int->Tm}{d:List Int}(h:DN E s l)(a:DN c b d)(e:∀f,yP E f↔yP c f):s=b/\l=d:=by have c':H7 E b:=⟨a.c.wf,a.c.idem,a.c.low,(e _).2 a.c.Wg,λf g=>a.c.gen f ((e f).1 g)⟩;cases h.c.uniq c';exact⟨rfl,Ki h.a a.a λv=>(h.m v).trans (a.m v).symm⟩
def P9(a:Tm->Bool)(s:Int->Tm)(l:List Int):List Bd×Int:=if l.any λv=>a (s v) then([],6) else(l.map λv=>⟨v,s v⟩,0)
open Classical in noncomputable def oC(a:Tm->Bool)(E:List (Tm×Tm)):List Bd×Int:=if h:∃p:(Int->Tm)×List Int,DN E p.1 p.2 then P9 a h.choose.1 h.choose.2 else([],13)
theorem FV{a:Tm->Bool}{E:List (Tm×Tm)}{s:Int->Tm}(h:DN E s l):oC a E=P9 a s l:=by have b:∃p:(Int->Tm)×List Int,DN E p.1 p.2:=⟨(s,l),h⟩;unfold oC;rw[dif_pos b];let⟨c,d⟩:=b.choose_spec.uniq h λf=>ck_;rw[c,d]
theorem Bc{a:Tm->Bool}{E:List (Tm×Tm)}(h:¬∃f,yP E f):oC a E=([],13):=by unfold oC;rw[dif_neg λ⟨p,b⟩=>h ⟨_,b.c.Wg⟩]
def oD(N:aW)(v:Int):Option Nat:=N.findIdx? λx=>x.1.k==1&&x.1.i==v
mutual def cu:aW->Tm->aW×Nat|N,⟨k,i,n,a⟩=>match if k=1 then oD N i else none with|some j=>(N,j)|none=>((cy N a).1++[(⟨k,i,n,a⟩,(cy N a).2)],(cy N a).1.length)def cy:aW->List Tm->aW×List Nat|N,[]=>(N,[])|N,x::l=>((cy (cu N x).1 l).1,(cu N x).2::(cy (cu N x).1 l).2)end
structure yw(N N':aW):Prop where
 g:gm N'
 le:N.length<=N'.length
 pre:∀i,i<N.length->N'[i]?=N[i]?
theorem yw.trans{A B C:aW}(h:yw A B)(k:yw B C):yw A C:=⟨k.g,aD_ h.le k.le,λi a=>(k.pre i (by have:=h.le;omega)).trans (h.pre i a)⟩
theorem yw.tn{A B:aW}(h:yw A B)(hi:i<A.length):tn B i=tn A i:=(fY h.pre hi).1
theorem FU{N:aW}(h:oD N v=some j):j<N.length/\(tn N j).k=1/\(tn N j).i=v:=by unfold oD at h;let⟨a,b,_⟩:=List.findIdx?_eq_some_iff_getElem.1 h;simp only[aw_,beq_iff_eq]at b;unfold tn;rw[ax_ a];exact⟨a,b⟩
theorem NI{N:aW}(h:oD N v=none):∀j,j<N.length->(tn N j).k=1->(tn N j).i≠v:=by grind[oD,tn]
theorem nb{N:aW}{x:Tm×List Nat}:tn (N++[x]) N.length=x.1/\ks (N++[x]) N.length=x.2:=by unfold tn ks;simp
theorem TT{N:aW}{t:Tm}{d:List Nat}(g:gm N)(h1:∀j∈d,j<N.length)(h2:t.a=d.map (tn N))(h3:e_ t)(h4:t.k=1->∀j,j<N.length->(tn N j).k=1->(tn N j).i≠t.i):yw N (N++[(t,d)]):=by have c:∀i,i<N.length->(N++[(t,d)])[i]?=N[i]?:=λi a=>bj_ a;have n:∀l:List Nat,(∀j∈l,j<N.length)->l.map (tn (N++[(t,d)]))=l.map (tn N):=λl o=>aQ_ λj b=>(fY c (o j b)).1;have m:∀i,i<(N++[(t,d)]).length->i<N.length\/i=N.length:=λi a=>Z;refine⟨⟨λi a j b=>?_,λi a=>?_,λi a=>?_,λi j a b f k e=>?_⟩,Z,c⟩;rcases m i a with h|rfl;rw[(fY c h).2]at b;exact g.lt i h j b;rw[nb.2]at b;exact h1 j b;rcases m i a with h|rfl;rw[(fY c h).1,(fY c h).2,n _ λj b=>by have:=g.lt i h j b;omega];exact g.args i h;rw[nb.1,nb.2,n _ h1];exact h2;rcases m i a with h|rfl;rw[(fY c h).1];exact g.wf i h;rw[nb.1];exact h3;rcases m i a with a|rfl<;>rcases m j b with b|rfl;rw[(fY c a).1]at f e;rw[(fY c b).1]at k e;exact g.one i j a b f k e;rw[(fY c a).1]at f e;rw[nb.1]at k e;exact absurd e (h4 k i a f);rw[(fY c b).1]at k e;rw[nb.1]at f e;exact absurd e.symm (h4 f j b k);rfl
mutual theorem sj:∀(N:aW)(t:Tm),gm N->e_ t->yw N (cu N t).1/\(cu N t).2<(cu N t).1.length/\tn (cu N t).1 (cu N t).2=t
 |N,⟨k,i,n,a⟩,g,c=>by
  rw[cu];by_cases d:k=1;rw[if_pos d];have f:=c;rw[e_,if_pos d]at f;obtain⟨rfl,rfl⟩:=f;subst d;cases q:oD N i with|some j =>let⟨b,h,m⟩:=FU q;refine⟨⟨g,aj_ _,λ_ _=>rfl⟩,b,?_⟩;rw[TQ (g.wf j b) h,m,vr]|none =>refine⟨?_,?_,?_⟩;grind[cy,TT,NI];grind;simp only[cy];exact nb.1
  rw[if_neg d];have f:=c;rw[e_,if_neg d]at f;let⟨b,h,m⟩:=Kl N a g f.1;refine⟨b.trans (TT b.g h m.symm c λe=>absurd e d),?_,?_⟩;simp;exact nb.1;theorem Kl:∀(N:aW)(l:List Tm),gm N->fy l->yw N (cy N l).1/\(∀j∈(cy N l).2,j<(cy N l).1.length)/\(cy N l).2.map (tn (cy N l).1)=l|N,[],g,_=>by rw[cy];exact⟨⟨g,aj_ _,λ_ _=>rfl⟩,λj o=>Z,rfl⟩|N,x::l,g,c=>by rw[fy]at c;let⟨b,h,m⟩:=sj N x g c.1;let⟨p,r,k3⟩:=Kl (cu N x).1 l b.g c.2;rw[cy];refine⟨b.trans p,λj o=>?_,?_⟩;rcases al_.1 o with rfl|o;have:=p.le;simp only;omega;grind;simp only[aK_,k3,p.tn h,m];end
def TF(N:aW)(c:Nat->Nat)(sh:Nat->Option Nat)(lo:Nat->Int):Nat->Nat->Tm|0,_=>default|m+1,C=>match sh C with|none=>vr (lo C)|some s=>⟨(tn N s).k,(tn N s).i,(tn N s).n,(ks N s).map λj=>TF N c sh lo m (c j)⟩
section
variable{E:List (Tm×Tm)}{N:aW}{r:Nat->Nat}
theorem Wi(hC:gm N)(hs:∀C s,sh C=some s->s<N.length/\c s=C/\(tn N s).k≠1)(b:vc N c r):∀(m a C:Nat),r C<m->r C<a->TF N c sh lo m C=TF N c sh lo a C|0,_,C,h,_=>X|m+1,0,C,_,h=>X|m+1,a+1,C,h,k=>by rw[TF,TF];cases e:sh C with|none=>rfl|some s =>let⟨d,f,g⟩:=hs C s e;simp only[Tm.mk.injEq,true_and];refine aQ_ λj i=>?_;have:=b s d g j i;rw[f]at this;exact Wi hC hs b m a (c j) X X
def TC(N:aW)(c:Nat->Nat)(sh:Nat->Option Nat)(lo:Nat->Int)(r:Nat->Nat)(C:Nat):Tm:=TF N c sh lo (r C+1) C
theorem ai3(hC:gm N)(hs:∀C s,sh C=some s->s<N.length/\c s=C/\(tn N s).k≠1)(a:vc N c r){s:Nat}(e:sh C=some s):TC N c sh lo r C=⟨(tn N s).k,(tn N s).i,(tn N s).n,(ks N s).map λj=>TC N c sh lo r (c j)⟩:=by let⟨b,d,f⟩:=hs C s e;rw[TC,TF,e];simp only[Tm.mk.injEq,true_and];refine aQ_ λj g=>?_;have:=a s b f j g;rw[d]at this;exact Wi hC hs a _ _ (c j) X X
theorem ai4(e:sh C=none):TC N c sh lo r C=vr (lo C):=by rw[TC,TF,e]
theorem P5(hC:u_ E N c)(hs:∀C s,sh C=some s->s<N.length/\c s=C/\(tn N s).k≠1)(m:vc N c r)(n:∀i,i<N.length->sh (c i)=none->∀j,j<N.length->c j=c i->(tn N j).k=1)(o:∀i,i<N.length->sh (c i)=none->∃j,j<N.length/\c j=c i/\lo (c i)=(tn N j).i/\∀g,g<N.length->c g=c i->(tn N j).i<=(tn N g).i):DM N c (TC N c sh lo r):=by
 refine⟨λi a h=>?_,λi a p=>?_⟩;cases e:sh (c i) with|none=>exact absurd (n i a e i a rfl) h|some s =>
  let⟨b,d,f⟩:=hs _ s e;let⟨⟨q,t,u,x⟩,v⟩:=hC.al i s a b d.symm h f;rw[ai3 hC.g hs m e,q,t,u];have k:∀l:List Nat,l.map (λj=>TC N c sh lo r (c j))=(l.map c).map (TC N c sh lo r):=λl=>by rw[bB_];rfl
  rw[k,k,v]
 cases e:sh (c i) with|none =>let⟨j,b,d,f,w⟩:=o i a e;exact⟨j,b,d,by rw[ai4 e,f],w⟩|some s =>let⟨b,d,f⟩:=hs _ s e;exact absurd (p s b d) f
end
def kE:Nat->List Nat->Nat->Option (List Nat×Nat)|0,_,_=>none|m+1,up,k=>match up[k]? with|none=>none|some p=>if p=k then some (up,k) else match up[p]? with|none=>none|some q=>kE m (up.set k q) q
theorem Mh:∀{m:Nat}{up:List Nat}{k:Nat}{r:List Nat×Nat},kE m up k=some r->kE (m+1) up k=some r|0,_,_,_,h=>by cases h|m+1,up,k,r,h=>by rw[kE]at h;rw[kE];split at h;grind;rename_i p a;split at h;grind;rename_i e;split at h;grind;rename_i q b;simp only[a,if_neg e,b];exact Mh h
theorem aeM{a:Nat}{k:Nat}(h:kE m up k=some r)(b:m<=a):kE a up k=some r:=by induction b with|refl=>exact h|step _ c=>exact Mh c
theorem abr{b:Nat}{k:Nat}{a:List Nat×Nat}(h:kE m up k=some r)(c:kE b up k=some a):r=a:=by grind[aeM]
open Classical in noncomputable def lI(up:List Nat)(k:Nat):Option (List Nat×Nat):=if h:∃p:Nat×List Nat×Nat,kE p.1 up k=some p.2 then some h.choose.2 else none
theorem aeN{k:Nat}(h:kE m up k=some r):lI up k=some r:=by have a:∃p:Nat×List Nat×Nat,kE p.1 up k=some p.2:=⟨(m,r),h⟩;unfold lI;rw[dif_pos a,abr a.choose_spec h]
theorem El{k:Nat}(h:lI up k=some r):∃m,kE m up k=some r:=by unfold lI at h;split at h;grind;grind
def cD(up:List Nat)(i:Nat):Nat:=up[i]?.getD i
structure UF(up:List Nat)(c h:Nat->Nat):Prop where
 lt:∀i,i<up.length->cD up i<up.length
 rt:∀i,i<up.length->cD up (c i)=c i/\c i<up.length
 st:∀i,i<up.length->c (cD up i)=c i
 fx:∀i,i<up.length->cD up i=i->c i=i
 ht:∀i,i<up.length->cD up i≠i->h (cD up i)<h i
theorem KW(hi:i<up.length):up[i]?=some (cD up i):=by grind[cD]
theorem qD{k v:Nat}(a:k<up.length)(i:Nat):cD (up.set k v) i=if i=k then v else cD up i:=by grind[cD]
theorem UF.cc(a:UF up c h)(hi:i<up.length):c (c i)=c i:=a.fx _ (a.rt i hi).2 (a.rt i hi).1
theorem UF.half(a:UF up c h){k:Nat}(d:k<up.length):UF (up.set k (cD up (cD up k))) c h:=by
 have g:=a.lt k d;have p:=a.lt _ g;refine⟨λi b=>?_,λi b=>?_,λi b=>?_,λi b e=>?_,λi b e=>?_⟩;all_goals rw[bl_]at b
 rw[qD d,bl_];split;grind;exact a.lt i b;rw[qD d,bl_];let⟨q,n⟩:=a.rt i b;refine⟨?_,n⟩;split;grind;grind;rw[qD d];split;rename_i e;subst e;rw[a.st _ g,a.st _ b];exact a.st i b;rw[qD d]at e;split at e;rename_i f;subst f;by_cases j:cD up i=i;exact a.fx i b j;have o:=a.ht i b j;by_cases l:cD up (cD up i)=cD up i;grind;have m:=a.ht _ g l;rw[e]at m;omega;exact a.fx i b e;rw[qD d]at e⊢;split at e;rename_i f;rw[if_pos f];subst f;by_cases j:cD up i=i;grind;have o:=a.ht i b j;by_cases l:cD up (cD up i)=cD up i;grind;have m:=a.ht _ g l;omega;rename_i f;rw[if_neg f];exact a.ht i b e
theorem UF.root{c h:Nat->Nat}:∀(a:Nat){up:List Nat}{k:Nat},UF up c h->k<up.length->h k<a->∃m f,kE m up k=some (f,c k)/\UF f c h/\f.length=up.length
 |0,_,_,_,_,i=>X|a+1,up,k,b,d,i=>by
  by_cases e:cD up k=k;refine⟨1,up,?_,b,rfl⟩;rw[kE,KW d];simp only[if_pos e,b.fx k d e];have g:=b.lt k d;have p:=b.lt _ g;have q:=b.ht k d e;have j:h (cD up (cD up k))<a:=by by_cases l:cD up (cD up k)=cD up k;grind;have:=b.ht _ g l;omega
  let⟨m,f,n,o,r⟩:=UF.root a (b.half d) Z j;refine⟨m+1,f,?_,o,Z⟩;rw[kE,KW d];simp only[if_neg e,KW g,n,b.st _ g,b.st _ d]
theorem UF.lI(b:UF up c h){k:Nat}(d:k<up.length):∃a,lI up k=some (a,c k)/\UF a c h/\a.length=up.length:=by let⟨m,a,e,f,g⟩:=UF.root _ b d (bp_ _);exact⟨a,aeN e,f,g⟩
theorem UF.merge(f:UF up c h)(k:a<up.length)(g:b<up.length)(l:c a=a)(m:c b=b)(n:a≠b):UF (up.set b a) (iV c a b) λi=>if c i=b then h i+h a+1 else h i:=by
 have o:cD up a=a:=by have:=(f.rt a k).1;rwa[l]at this
 refine⟨λi d=>?_,λi d=>?_,λi d=>?_,λi d e=>?_,λi d e=>?_⟩;all_goals rw[bl_]at d
 rw[qD g,bl_];split;grind;exact f.lt i d;rw[qD g,bl_];by_cases e:c i=b;grind[iV];rw[show iV c a b i=c i from if_neg e,if_neg e];exact f.rt i d;rw[qD g];unfold iV;split;grind;rw[f.st i d];rw[qD g]at e;unfold iV;split at e;grind;rename_i j;have:=f.fx i d e;rw[this,if_neg j];rw[qD g]at e⊢;split at e;grind;rename_i j;have:=f.ht i d e;simp only[if_neg j,f.st i d];split<;>omega
def dx(sh:List (Int×Int))(C:Nat):Option Nat:=(aN sh (C:Int)).map Int.toNat
def tq(s t:Tm):Bool:=s.k==t.k&&s.i==t.i&&decide (s.n.toList=t.n.toList)&&decide (s.a.length=t.a.length)
def pB(sh:List (Int×Int))(a b:Nat):List (Int×Int):=match aN sh (b:Int) with|some k=>(match aN sh (a:Int) with|some _=>sh|none=>iA sh a k)|none=>sh
def oq(ls:List (Int×Int))(a b:Nat):List (Int×Int):=match aN ls (b:Int) with|some v=>(match aN ls (a:Int) with|some w=>if v<w then iA ls a v else ls|none=>iA ls a v)|none=>ls
structure JS where
 up:List Nat
 sh:List (Int×Int)ls:List (Int×Int)
noncomputable def jS(N:aW):Nat->List (Nat×Nat)->JS->Option (Bool×JS)|0,_,_=>none|m+1,ps,s=>if 1099511627776<ps.length then none else match ps.getLast? with|none=>some (true,s)|some p=>match lI s.up p.1 with|none=>none|some (e,a)=>match lI e p.2 with|none=>none|some (c,b)=>if a=b then jS N m ps.dropLast ⟨c,s.sh,s.ls⟩ else match aN s.sh (a:Int),aN s.sh (b:Int) with
     |some i,some k=>match N[i.toNat]?,N[k.toNat]? with|some (t,l),some (f,d)=>if 0<=i/\0<=k then if tq t f then if l.length=d.length then jS N m (ps.dropLast++l.zip d) ⟨c.set b a,pB s.sh a b,oq s.ls a b⟩ else none else some (false,⟨c,s.sh,s.ls⟩) else none|_,_=>none
     |_,_=>jS N m ps.dropLast ⟨c.set b a,pB s.sh a b,oq s.ls a b⟩
def xA(N:aW)(c:Nat->Nat)(C:Nat):Option Int->Prop|none=>∀j,j<N.length->c j=C->(tn N j).k≠1|some v=>(∃j,j<N.length/\c j=C/\(tn N j).k=1/\(tn N j).i=v)/\∀j,j<N.length->c j=C->(tn N j).k=1->v<=(tn N j).i
structure rp(E:List (Tm×Tm))(N:aW)(zzD:List (Nat×Nat))(c:Nat->Nat)(ps:List (Nat×Nat))(s:JS):Prop where
 gi:jU E N zzD c ps
 uf:∃h,UF s.up c h
 len:s.up.length=N.length
 pos:∀C i,aN s.sh C=some i->0<=i
 CD:∀C,C<N.length->c C=C->jO N c C (dx s.sh C)aQ:∀C,C<N.length->c C=C->xA N c C (aN s.ls (C:Int))frs:∀C:Nat,N.length<=C->aN s.sh (C:Int)=none
 frl:∀C:Nat,N.length<=C->aN s.ls (C:Int)=none
def iM(c:Nat->Nat):Nat->Nat|0=>0|n+1=>iM c n+if c n=n then 1 else 0
theorem OW{c d:Nat->Nat}(h:∀i,d i=i->c i=i):∀n,iM d n<=iM c n|0=>aj_ _|n+1=>by have:=OW h n;rw[iM,iM];by_cases e:d n=n;grind;grind
theorem Be{c d:Nat->Nat}(h:∀i,d i=i->c i=i){b:Nat}(a:c b=b)(f:d b≠b):∀n,b<n->iM d n<iM c n|0,g=>X|n+1,g=>by rw[iM,iM];by_cases e:b=n;subst e;have:=OW h b;rw[if_pos a,if_neg f];omega;have:=Be h a f n X;by_cases e:d n=n;grind;grind
theorem KS(c:Nat->Nat):∀n,iM c n<=n|0=>aj_ _|n+1=>by have:=KS c n;rw[iM];split<;>omega
theorem DR{s t:Tm}:tq s t=true↔alike s t:=by grind[Zj,tq,alike]
theorem KX(d:a≠b)(e:c a=a):iV c a b i=i->c i=i:=by grind[iV]
theorem zp{N:aW}(hi:i<N.length):N[i]?=some (tn N i,ks N i):=by grind[tn,ks]
def orS:Option Nat->Option Nat->Option Nat|some i,_=>some i|none,y=>y
def Nr:Option Int->Option Int->Option Int|some w,some v=>some (if v<w then v else w)|some w,none=>some w|none,x=>x
theorem an6{sh:List (Int×Int)}(hC:C≠b)(f:a≠b):dx (pB sh a b) C=if C=a then orS (dx sh a) (dx sh b) else dx sh C:=by
 unfold dx pB;by_cases e:C=a;subst e;rw[if_pos rfl];cases d:aN sh (b:Int) with|none=>cases c:aN sh (C:Int)<;>simp[c,orS]|some k =>cases c:aN sh (C:Int) with|none=>simp[dm,orS]|some i=>simp[c,orS]
 rw[if_neg e];cases d:aN sh (b:Int) with|none=>rfl|some k =>cases c:aN sh (a:Int) with|none=>simp only[dm];rw[if_neg X]|some i=>rfl
theorem asv{ls:List (Int×Int)}(hC:C≠b)(f:a≠b):aN (oq ls a b) (C:Int)=if C=a then Nr (aN ls (a:Int)) (aN ls (b:Int)) else aN ls (C:Int):=by
 unfold oq;by_cases e:C=a;subst e;rw[if_pos rfl];cases d:aN ls (b:Int) with|none=>cases c:aN ls (C:Int)<;>simp[c,Nr]|some k =>cases c:aN ls (C:Int) with|none=>simp[dm,Nr]|some i =>simp only[Nr];split;grind[dm];grind
 rw[if_neg e];cases d:aN ls (b:Int) with|none=>rfl|some k =>cases c:aN ls (a:Int) with|none=>simp only[dm];rw[if_neg X]|some i =>split;grind[dm];rfl
theorem jO.merge{N:aW}{x y:Option Nat}(h:jO N c a x)(j:jO N c b y)(l:a≠b):jO N (iV c a b) a (orS x y):=by cases x with|some i =>let⟨d,f,g⟩:=h;refine⟨d,?_,g⟩;unfold iV;rw[f,if_neg l]|none =>cases y with|some i =>let⟨d,f,g⟩:=j;refine⟨d,?_,g⟩;unfold iV;rw[f,if_pos rfl]|none =>intro i k e;unfold iV at e;split at e;rename_i m;exact j i k m;exact h i k e
theorem xA.merge{N:aW}{x y:Option Int}(k:xA N c a x)(h:xA N c b y)(A:a≠b):xA N (iV c a b) a (Nr x y):=by
 have p:∀j,c j=a->iV c a b j=a:=λj e=>by grind[iV]
 have mb:∀j,c j=b->iV c a b j=a:=λj e=>by grind[iV]
 have f:∀j,iV c a b j=a->c j=a\/c j=b:=λj e=>by grind[iV]
 cases x with
 |some w =>let⟨⟨j,r,s,t,u⟩,B⟩:=k;cases y with|some v =>let⟨⟨i,l,m,n,o⟩,z⟩:=h;simp only[Nr];split;refine⟨⟨i,l,mb i m,n,o⟩,λq d e g=>?_⟩;rcases f q e with e|e;grind;grind;refine⟨⟨j,r,p j s,t,u⟩,λq d e g=>?_⟩;rcases f q e with e|e;grind;grind|none =>refine⟨⟨j,r,p j s,t,u⟩,λq d e g=>?_⟩;rcases f q e with e|e;grind;exact absurd g (h q d e)
 |none =>cases y with|some v =>let⟨⟨i,l,m,n,o⟩,z⟩:=h;refine⟨⟨i,l,mb i m,n,o⟩,λq d e g=>?_⟩;rcases f q e with e|e;exact absurd g (k q d e);grind|none =>intro q d e;rcases f q e with e|e;exact k q d e;exact h q d e
theorem H9(hC:C≠a)(d:C≠b)(j:Nat):iV c a b j=C↔c j=C:=by grind[iV]
theorem jO.other{N:aW}(hC:C≠a)(d:C≠b){x:Option Nat}(h:jO N c C x):jO N (iV c a b) C x:=by cases x with|some i=>exact⟨h.1,(H9 hC d i).2 h.2.1,h.2.2⟩|none=>exactλi f e=>h i f ((H9 hC d i).1 e)
theorem xA.other{N:aW}(hC:C≠a)(d:C≠b){x:Option Int}(h:xA N c C x):xA N (iV c a b) C x:=by cases x with|some v =>let⟨⟨j,f,g,k,l⟩,m⟩:=h;exact⟨⟨j,f,(H9 hC d j).2 g,k,l⟩,λq n e=>m q n ((H9 hC d q).1 e)⟩|none=>exactλi o e=>h i o ((H9 hC d i).1 e)
section
variable{E:List (Tm×Tm)}{N:aW}{s:JS}
theorem rp.merge{y:Nat}{P':List (Nat×Nat)}(h:rp E N zzD c (ps++[(x,y)]) s)(q:a=c x)(r:b=c y)(l:a≠b)(K:∀p,p∈P'↔p∈pf N (dx s.sh a) (dx s.sh b)++ps)(L:∀i j,dx s.sh a=some i->dx s.sh b=some j->alike (tn N i) (tn N j)){u:List Nat}(M:∃h,UF u c h)(w:u.length=N.length):rp E N zzD (iV c a b) P' ⟨u.set b a,pB s.sh a b,oq s.ls a b⟩:=by
 let⟨R,S,_⟩:=h.gi.pV (x,y) aE;let⟨T,n⟩:=M;have z:a<N.length:=by rw[q,<-w];exact(n.rt x X).2
 have A:b<N.length:=by rw[r,<-w];exact(n.rt y X).2
 have o:c a=a:=by rw[q];exact n.cc X
 have t:c b=b:=by rw[r];exact n.cc X
 have B:=h.CD a z o;have F:=h.CD b A t;have P:jU E N zzD c ((x,y)::ps):=h.gi.perm λp=>Z;have G:=P.merge (sa:=dx s.sh a) (sb:=dx s.sh b) Z Z L;rw[<-q,<-r]at G;refine⟨G.perm K,⟨_,n.merge X X o t l⟩,Z,λC i d=>?_,λC m e=>?_,λC m e=>?_,λC m=>?_,λC m=>?_⟩;unfold pB at d;cases v:aN s.sh (b:Int) with|none=>rw[v]at d;exact h.pos C i d|some k =>rw[v]at d;cases J:aN s.sh (a:Int) with|some j=>rw[J]at d;exact h.pos C i d|none =>rw[J]at d;simp only[dm]at d;split at d;cases oJ_ d;exact h.pos _ _ v;exact h.pos C i d
 have f:C≠b:=λg=>by grind[iV]
 rw[an6 f l];split;rename_i g;subst g;exact B.merge F l;rename_i g;exact(h.CD C m (KX l o e)).other g f;have f:C≠b:=λg=>by grind[iV]
 rw[asv f l];split;rename_i g;subst g;exact(h.aQ C z o).merge (h.aQ b A t) l;rename_i g;exact(h.aQ C m (KX l o e)).other g f;have Q:=h.frs C m;unfold pB;split;grind[dm];grind;have Q:=h.frl C m;unfold oq;split;grind[dm];grind
theorem G3{Y:Type}:∀(l:List Y),l=[]\/∃a x,l=a++[x]|[]=>.inl rfl|x::l=>.inr (by rcases G3 l with rfl|⟨a,y,rfl⟩;exact⟨[],x,rfl⟩;exact⟨x::a,y,rfl⟩)
theorem ahr{K:Nat}(hK:∀i,i<N.length->(ks N i).length<=K)(n m:Nat):∀{c:Nat->Nat}{ps:List (Nat×Nat)}{s:JS},iM c N.length=n->ps.length=m->m+K*n<=1099511627776->rp E N zzD c ps s ->∃f b a,jS N f ps s=some (b,a)/\(b=true->∃c',rp E N zzD c' [] a)/\(b=false->¬∃f,yP E f):=by induction n using Nat.strongRecOn generalizing m with|ind n d =>induction m with|zero =>intro c ps s A B hX h;cases bT_.1 B;exact⟨1,true,s,rfl,λ_=>⟨c,h⟩,λe=>Z⟩|succ m C =>
   intro c ps s A B hX h;rcases G3 ps with rfl|⟨p0,p,rfl⟩;grind;rw[ay_,bf_]at B;let⟨x,y⟩:=p;let⟨hx,hy,pI⟩:=h.gi.pV (x,y) aE;simp only at hx hy pI;let⟨S,u⟩:=h.uf;have hl:=h.len;let⟨u1,r1,I6,l1⟩:=u.lI (k:=x) X;let⟨g,r2,T,l2⟩:=I6.lI (k:=y) X;have V:jU E N zzD c ((x,y)::p0):=h.gi.perm λp=>Z;have e0:∀f,jS N (f+1) (p0++[(x,y)]) s=if c x=c y then jS N f p0 ⟨g,s.sh,s.ls⟩ else match aN s.sh (c x:Int),aN s.sh (c y:Int) with
    |some i,some k=>match N[i.toNat]?,N[k.toNat]? with|some (t,l),some (t',W)=>if 0<=i/\0<=k then if tq t t' then if l.length=W.length then jS N f (p0++l.zip W) ⟨g.set (c y) (c x),pB s.sh (c x) (c y),oq s.ls (c x) (c y)⟩ else none else some (false,⟨g,s.sh,s.ls⟩) else none|_,_=>none
    |_,_=>jS N f p0 ⟨g.set (c y) (c x),pB s.sh (c x) (c y),oq s.ls (c x) (c y)⟩:=λf=>by rw[jS,if_neg Z];simp only[List.getLast?_append,List.getLast?_singleton,Option.some_or,r1,r2,dO_]
   by_cases e:c x=c y;have o:rp E N zzD c p0 ⟨g,s.sh,s.ls⟩:=⟨V.pop e,⟨S,T⟩,Z,h.pos,h.CD,h.aQ,h.frs,h.frl⟩;let⟨f,b,a,v,q⟩:=C A X X o;exact⟨f+1,b,a,Z,q⟩;have la:c x<N.length:=by have:=(u.rt x X).2;omega
   have lb:c y<N.length:=by have:=(u.rt y X).2;omega
   have ca:c (c x)=c x:=u.cc X;have F:c (c y)=c y:=u.cc X;have sa:=h.CD _ la ca;have sb:=h.CD _ lb F;have w:iM (iV c (c x) (c y)) N.length<n:=by rw[<-A];refine Be (λi=>KX e ca) F (λG=>?_) _ lb;unfold iV at G;rw[F,if_pos rfl]at G;exact e G
   have hmul:K*iM (iV c (c x) (c y)) N.length+K<=K*n:=by rw[<-Nat.mul_succ];exact Nat.mul_le_mul_left K w
   have r:∃h,UF g c h:=⟨S,T⟩;cases e1:aN s.sh (c x:Int) with|none =>
    have f1:dx s.sh (c x)=none:=by grind[dx]
    have o:=h.merge rfl rfl e (P':=p0) λp=>by grind[pf] (λi j hi=>Z) r X;let⟨f,b,a,v,q⟩:=d _ w p0.length rfl rfl X o;exact⟨f+1,b,a,Z,q⟩|some i =>cases e2:aN s.sh (c y:Int) with
    |none =>
     have f1:dx s.sh (c y)=none:=by grind[dx]
     have o:=h.merge rfl rfl e (P':=p0) λp=>by grind[dx,pf] (λi j _ hj=>Z) r X;let⟨f,b,a,v,q⟩:=d _ w p0.length rfl rfl X o;exact⟨f+1,b,a,Z,q⟩|some k =>
     have f1:dx s.sh (c x)=some i.toNat:=by grind[dx]
     have f2:dx s.sh (c y)=some k.toNat:=by grind[dx]
     rw[f1]at sa;rw[f2]at sb;let⟨J,L,M⟩:=sa;let⟨P,Q,R⟩:=sb;have hp:0<=i/\0<=k:=⟨h.pos _ _ e1,h.pos _ _ e2⟩;cases z:tq (tn N i.toNat) (tn N k.toNat) with|false =>refine⟨1,false,⟨g,s.sh,s.ls⟩,?_,λe=>Z,λ_=>?_⟩;grind[zp];exact V.afi (s:=i.toNat) (t:=k.toNat) ⟨J,L,M⟩ ⟨P,Q,R⟩ λh=>by rw[DR.2 h]at z;cases z|true =>
      have aV:=DR.1 z;have Hf:(ks N i.toNat).length=(ks N k.toNat).length:=by rw[nY h.gi.g J,nY h.gi.g P,aV.2.2.2]
      have o:=h.merge rfl rfl e (P':=p0++(ks N i.toNat).zip (ks N k.toNat)) λp=>by grind[pf,PD] (λi' j' hi hj=>Z) r X;let⟨f,b,a,v,q⟩:=d _ w _ rfl rfl Z o;refine⟨f+1,b,a,?_,q⟩;rw[e0,if_neg e,e1,e2];simp only[zp J,zp P,if_pos hp,z,if_true,if_pos Hf];exact v
end
end Go.Proofs.YtbdcmpknicjopaaGreat
