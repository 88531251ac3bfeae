import Derived.Test.YtbpabjmnhggajaaGreatProg
import Derived.Test.YtbpabjmnhggajaaGreatOr12
namespace Go.Proofs.YtbpabjmnhggajaaGreat
set_option linter.all false
open Go.RowKit
variable {e:Int}{ik:IntKind}{args:List AV}{P:Prop}{w0:World}{S:af}
structure Tm where
 k:Int
 i:Int
 n:ByteArray
 a:List Tm
mutual
def iN:Tm->List AV
 |⟨k,i,n,a⟩=>[iv k,iv i,.v (.string n),.sl false (LI a)]
def LI:List Tm->List (List AV)
 |[]=>[]
 |x::l=>iN x::LI l
end
theorem Is:∀l,LI l=l.map iN
 |[]=>by rw[LI];rfl
 |x::l=>by rw[LI,Is l];rfl
mutual
theorem Tm.adv {p:Tm->Prop}{q:List Tm->Prop}(b:∀k i n a,q a->p ⟨k,i,n,a⟩) (h0:q []) (h1:∀x l,p x->q l->q (x::l)):∀t,p t
 |⟨k,i,n,a⟩=>b k i n a (Tm.ZL b h0 h1 a)
theorem Tm.ZL {p:Tm->Prop}{q:List Tm->Prop}(b:∀k i n a,q a->p ⟨k,i,n,a⟩) (h0:q []) (h1:∀x l,p x->q l->q (x::l)):∀l,q l
 |[]=>h0
 |x::l=>h1 x l (Tm.adv b h0 h1 x) (Tm.ZL b h0 h1 l)
end
theorem Tm.ind {p:Tm->Prop}(h:∀k i n (a:List Tm),(∀x ∈ a,p x)->p ⟨k,i,n,a⟩) (t:Tm):p t :=
 Tm.adv (q:=λl=>∀x ∈ l,p x) h (λx h=>by grind) (λx l b c y d=>by grind) t
def tl (ρ:Hd) (l:List Tm):AV:=aR ρ iN false l
def je (ρ:Hd) (x:Tm):List AV:=[iv x.k,iv x.i,.v (.string x.n),tl ρ x.a]
def tm (ρ:Hd) (x:Tm):AV:=.agg (je ρ x)
section
variable {ρ:Hd}
theorem pM (x:Tm):iN x=je ρ x:=by
 obtain⟨k,i,n,a⟩:=x;rw[iN,Is,je,tl,bX]
theorem ov (x:Tm):(iN x).length=4:=by rw[pM (ρ:=.plain)];rfl
theorem wO (x:Tm):∀a ∈ iN x,Pure a:=by
 refine Tm.ind (p:=λx=>∀a ∈ iN x,Pure a) ?_ x;intro k i n a e b d;rw[iN]at d;simp only[ad_,as_,or_false]at d;rcases d with rfl|rfl|rfl|rfl
 ·exact .v
 ·exact .v
 ·exact .v
 ·rw[Is];exact .sl λrow f c g=>by grind
theorem cG (l:List Tm):Pure (tl ρ l):=dT λx _ a b=>wO x a b
theorem wP (x:Tm):∀a ∈ je ρ x,Pure a:=by rw[<-pM];exact wO x
theorem bQ (x:Tm):Pure (tm ρ x):=.agg (wP x)
theorem cC {l:List Tm}{i:Int}{k:Nat}{x:Tm}(hi:i=(k:Int)) (h:l[k]?=some x):idx (ρ.h (List.map iN) l) i=some (je ρ x):=by
 rw[aB hi h,pM]
theorem cD {l:List Tm}:∀r ∈ ρ.h (List.map iN) l,r.length=4:=aA λx=>ov x
end
structure At where
 n:ByteArray
 a:List Tm
structure Gl where
 op:Int
 n:ByteArray
 a:List Tm
structure Im where
 id:Int
 n:ByteArray
 a:List Tm
structure Bd where
 v:Int
 t:Tm
structure Fi where
 LL:Int
 ids:List Int
structure Rl where
 n:ByteArray
 aM:List At
 rem:List At
 guard:List Gl
 body:List Gl
 vars:Int
structure Dc where
 n:ByteArray
 ar:Int
structure Pg where
 ds:List Dc
 rs:List Rl
structure EJ where
 goals:List Gl
 store:List Im
 binds:List Bd
 su:List Fi
 known:List Gl
 next:Int
 fresh:Int
 failed:Bool
def atR (ρ:Hd) (x:At):List AV:=[.v (.string x.n),tl ρ x.a]
def jf (ρ:Hd) (x:Gl):List AV:=[iv x.op,.v (.string x.n),tl ρ x.a]
def qt (ρ:Hd) (x:Im):List AV:=[iv x.id,.v (.string x.n),tl ρ x.a]
def gG (ρ:Hd) (x:Bd):List AV:=[iv x.v,iv x.t.k,iv x.t.i,.v (.string x.t.n),tl ρ x.t.a]
def TY (ρ:Hd) (x:Fi):List AV:=[iv x.LL,aR ρ aI false x.ids]
def cL (ρ:Hd) (l:List At):AV:=aR ρ (atR ρ) false l
def cE (ρ:Hd) (l:List Gl):AV:=aR ρ (jf ρ) false l
def tu (ρ:Hd) (l:List Im):AV:=aR ρ (qt ρ) false l
def eg (ρ:Hd) (l:List Bd):AV:=aR ρ (gG ρ) false l
def ye (ρ:Hd) (l:List Fi):AV:=aR ρ (TY ρ) false l
def iE (ρ:Hd) (x:Rl):List AV:=[.v (.string x.n),cL ρ x.aM,cL ρ x.rem,cE ρ x.guard,cE ρ x.body,iv x.vars]
def TZ (x:Dc):List AV:=[.v (.string x.n),iv x.ar]
def ft (ρ:Hd) (l:List Dc):AV:=aR ρ TZ false l
def LM (ρ:Hd) (l:List Rl):AV:=aR ρ (iE ρ) false l
def od (ρ:Hd) (x:Pg):List AV:=[ft ρ x.ds,LM ρ x.rs]
def GQ (ρ:Hd) (x:EJ):List AV:=[cE ρ x.goals,tu ρ x.store,eg ρ x.binds,ye ρ x.su,cE ρ x.known,iv x.next,iv x.fresh,.v (.bool x.failed)]
def at_ (ρ:Hd) (x:At):AV:=.agg (atR ρ x)
def gl (ρ:Hd) (x:Gl):AV:=.agg (jf ρ x)
def it (ρ:Hd) (x:Im):AV:=.agg (qt ρ x)
def bd (ρ:Hd) (x:Bd):AV:=.agg (gG ρ x)
def fi (ρ:Hd) (x:Fi):AV:=.agg (TY ρ x)
def rl (ρ:Hd) (x:Rl):AV:=.agg (iE ρ x)
def pg (ρ:Hd) (x:Pg):AV:=.agg (od ρ x)
def Jn (ρ:Hd) (x:EJ):AV:=.agg (GQ ρ x)
section
variable {ρ:Hd}
theorem bt (l:List Int) {ex:Bool}:Pure (aR ρ aI ex l):=dT λx _ a b=>by
 obtain rfl:=ae_.1 b;exact .v
theorem vk {a b:AV}(d:Pure a) (e:Pure b):∀c ∈ [a,b],Pure c:=by grind
theorem Iu {a b c:AV}(e:Pure a) (f:Pure b) (g:Pure c):∀d ∈ [a,b,c],Pure d:=by grind
theorem wQ (x:At):∀a ∈ atR ρ x,Pure a:=vk .v (cG _)
theorem qN (x:Gl):∀a ∈ jf ρ x,Pure a:=Iu .v .v (cG _)
theorem tK (x:Im):∀a ∈ qt ρ x,Pure a:=Iu .v .v (cG _)
theorem AM (x:Bd):∀a ∈ gG ρ x,Pure a:=by simp[gG,cG,Pure.v,iv]
theorem LO (x:Fi):∀a ∈ TY ρ x,Pure a:=vk .v (bt _)
theorem dk (l:List At):Pure (cL ρ l):=dT λx _ a b=>wQ x a b
theorem dM (l:List Gl):Pure (cE ρ l):=dT λx _ a b=>qN x a b
theorem qO (l:List Im):Pure (tu ρ l):=dT λx _ a b=>tK x a b
theorem fA (l:List Bd):Pure (eg ρ l):=dT λx _ a b=>AM x a b
theorem tL (l:List Fi):Pure (ye ρ l):=dT λx _ a b=>LO x a b
theorem tM (x:Rl):∀a ∈ iE ρ x,Pure a:=by simp[iE,dk,dM,Pure.v,iv]
theorem LP (x:Dc):∀a ∈ TZ x,Pure a:=vk .v .v
theorem fW (l:List Dc):Pure (ft ρ l):=dT λx _ a b=>LP x a b
theorem tN (l:List Rl):Pure (LM ρ l):=dT λx _ a b=>tM x a b
theorem o5 (x:Pg):∀a ∈ od ρ x,Pure a:=vk (fW _) (tN _)
theorem Fx (x:EJ):∀a ∈ GQ ρ x,Pure a:=by simp[GQ,dM,qO,fA,tL,Pure.v,iv]
theorem lN (x:At):Pure (at_ ρ x):=.agg (wQ x)
theorem lO (x:Gl):Pure (gl ρ x):=.agg (qN x)
theorem Ec (x:Im):Pure (it ρ x):=.agg (tK x)
theorem zw (x:Bd):Pure (bd ρ x):=.agg (AM x)
theorem wC (x:Fi):Pure (fi ρ x):=.agg (LO x)
theorem fQ (x:Rl):Pure (rl ρ x):=.agg (tM x)
theorem pN (x:Pg):Pure (pg ρ x):=.agg (o5 x)
theorem wR (x:EJ):Pure (Jn ρ x):=.agg (Fx x)
end
theorem gq {P:Program}{rd:Bool}{n:Nat}{Q:Exit->AA->af->Prop}(G:List Nat) {a b:QF}{α c:AA}{S':af}(k:ad P w0 rd n Q b c S') (h:nh G 400 a α S=(b,c,S'):=by conv=>lhs;cbv):ad P w0 rd n Q a α S:=ad.yd G 400 h k
section
variable {P:Program}{w0:World}{rd dr:Bool}{n:Nat}{Q:Exit->AA->af->Prop}{α:AA}{S S':af}{i:QI}{l:List QI}{K:List f_}
theorem fq {ex:Exit}{r:AV}{a:List QR}{R:AV->af->Prop}(k:R r S') (h:Iv a ex α S=some (r,S'):=by conv=>lhs;cbv):ad P w0 rd n (sj a R) (.out ex []) α S:=ad.fin h k
theorem bq {e:Bool}(a:e=true->ad P w0 rd n Q (.bc dr l K) (bP i.d α (.v (.bool true))) S') (b:e=false->ad P w0 rd n Q (.bc dr l K) (bP i.d α (.v (.bool false))) S') (c:bG α.tm i.g=some true:=by rfl) (h:ae P w0 dr i.q α S (.v (.bool e)) S':=by exact ae.bit rfl):ad P w0 rd n Q (.bc dr (i::l) K) α S:=ad.bif c h a b
theorem bS (k:∀d,d=e->ad P w0 rd n Q (.bc dr l K) (bP i.d α (.v (.int ik d))) S') (a:bG α.tm i.g=some true:=by rfl) (h:ae P w0 dr i.q α S (.v (.int ik e)) S':=by exact ae.len rfl):ad P w0 rd n Q (.bc dr (i::l) K) α S:=ad.int a h k
theorem cw (k:∀d,d=e->ad P w0 rd n Q (.bc dr l K) (bP i.d α (.v (.int ik d))) S') (a:bG α.tm i.g=some true:=by rfl) (h:ae P w0 dr i.q α S (.v (.int ik e)) S':=by exact ae.yf rfl rfl rfl (by omega) (by omega)):ad P w0 rd n Q (.bc dr (i::l) K) α S:=ad.int a h k
theorem ll (k:∀d,d=e->ad P w0 rd n Q (.bc dr l K) (bP i.d α (.v (.int ik d))) S') (a:bG α.tm i.g=some true:=by rfl) (h:ae P w0 dr i.q α S (.v (.int ik e)) S':=by exact ae.adw rfl (by omega) (by omega)):ad P w0 rd n Q (.bc dr (i::l) K) α S:=ad.int a h k
end
theorem bL:(∀(p:Prop) [Decidable p],(decide p=true)=p)/\(∀(p:Prop) [Decidable p],(decide p=false)=¬ p)/\(∀{α:Type} [BEq α] [LawfulBEq α] (a b:α),((a == b)=true)=(a=b))/\(∀{α:Type} [BEq α] [LawfulBEq α] (a b:α),((a == b)=false)=¬ a=b)/\(∀{α:Type} [BEq α] [LawfulBEq α] (a b:α),((a != b)=true)=¬ a=b)/\(∀{α:Type} [BEq α] [LawfulBEq α] (a b:α),((a != b)=false)=(a=b)) /\
  (∀b:Bool,(¬ b=true)=(b=false))/\(∀b:Bool,(¬ b=false)=(b=true))/\(∀b:Bool,((!b)=true)=(b=false))/\(∀b:Bool,((!b)=false)=(b=true))/\(∀{α:Type}(a b:α),(a ≠ b)=¬ a=b):=by
 refine⟨λp _=>by simp,λp _=>by simp,λa b=>by simp,λa b=>by simp,λa b=>by simp,λa b=>by simp,λb=>by simp,λb=>by simp,λb=>by simp,λb=>by simp,λa b=>rfl⟩
theorem sq (h:P:=by (repeat' (first|exact trivial|(refine⟨?_,?_⟩;first|exact .aC rfl .v|exact .aC rfl wz|exact .aC rfl (Pure.bm (by (first|exact .v|exact cG _|exact bt _|exact dk _|exact dM _|exact qO _|exact fA _|exact tL _|exact fW _|exact tN _|exact bQ _|exact lN _|exact lO _|exact Ec _|exact zw _|exact wC _|exact fQ _|exact pN _|exact wR _|assumption)))|exact .aC rfl .u|exact .new rfl rfl|exact .jT rfl rfl|exact .kO rfl|exact .ni rfl rfl|exact .sv rfl rfl|exact .aC rfl (.pt (by decide))|exact .aC rfl (.mp (by decide))|exact .aC rfl (.gr (by decide))|exact .aC rfl (.ob (by decide))|exact .aC rfl (.yl (by decide)))))):P:=h
theorem kq (h:P:=by (repeat' (first|exact trivial|(refine⟨?_,?_⟩;first|exact .aC .v|exact .aC wz|exact .aC (Pure.bm (by (first|exact .v|exact cG _|exact bt _|exact dk _|exact dM _|exact qO _|exact fA _|exact tL _|exact fW _|exact tN _|exact bQ _|exact lN _|exact lO _|exact Ec _|exact zw _|exact wC _|exact fQ _|exact pN _|exact wR _|assumption)))|exact .jT rfl rfl|exact .kO|exact .aC (.pt (by decide))|exact .aC (.mp (by decide))|exact .aC (.gr (by decide))|exact .ni rfl rfl|exact .sv rfl rfl|exact .aC .u)))):P:=h
theorem cq (h:P:=by exact⟨by (repeat' (first|exact trivial|(refine⟨?_,?_⟩;first|exact .aC rfl .v|exact .aC rfl wz|exact .aC rfl (Pure.bm (by (first|exact .v|exact cG _|exact bt _|exact dk _|exact dM _|exact qO _|exact fA _|exact tL _|exact fW _|exact tN _|exact bQ _|exact lN _|exact lO _|exact Ec _|exact zw _|exact wC _|exact fQ _|exact pN _|exact wR _|assumption)))|exact .aC rfl .u|exact .new rfl rfl|exact .jT rfl rfl|exact .kO rfl|exact .ni rfl rfl|exact .sv rfl rfl|exact .aC rfl (.pt (by decide))|exact .aC rfl (.mp (by decide))|exact .aC rfl (.gr (by decide))|exact .aC rfl (.ob (by decide))|exact .aC rfl (.yl (by decide))))),rfl,trivial,rfl,rfl,rfl⟩):P:=h
abbrev FQ (n:FuncId) (f:Func):={q:QC × List QR // oc Tryz.prog n q f.ntmps}
abbrev aF {n:FuncId}{f:Func}{q:QC × List QR}(hf:Tryz.prog.funcs[n]?=some f) (hc:∀(xs:Array Value) (w:World),(callFunc n xs).run Tryz.prog w=.ok (.enter n xs) w) (hq:GR Tryz.progTables f=some q:=by conv=>lhs;cbv) (hT:Tryz.prog.toTables=Tryz.progTables:=by rfl) (hd:GU Tryz.prog f=true:=by kernel_rfl):FQ n f:=⟨q,oc.of hf hq hT rfl hd hc⟩
theorem st {n:FuncId}{f:Func}{r:AV}{a:QF}{α:AA}(x:FQ n f) (G:List Nat) (b:Pure r) (k:ad Tryz.prog w0 false f.ntmps (sj x.1.2 λc S=>aP S c r) a α S) (d:args.length<=f.ntmps:=by exact aq_ rfl) (g:nh G 400 (.run x.1.1 []) ⟨nI args,[]⟩ af.none_=(a,α,S):=by conv=>lhs;cbv):ah Tryz.prog w0 n args r:=x.2.amp d b (ad.yd G 400 g k)
theorem sc {n:FuncId}{f:Func}{a:AV}{so:List (Nat × Ob)}(B N:Nat) (x:FQ n f) (k:ad Tryz.prog w0 false f.ntmps (sj x.1.2 λr S'=>∃m,kf B m N r a/\fO B m N S' so/\qD B m (so.map (·.1))=true) (.run x.1.1 []) ⟨nI args,[]⟩ S) (b:args.length<=f.ntmps:=by exact aq_ rfl) (c:Nat.ble S.nx B=true:=by rfl) (d:Nat.ble B N=true:=by rfl):aG Tryz.prog w0 n args S a (aq so N):=oc.amo B N so x.2 b c d k
end Go.Proofs.YtbpabjmnhggajaaGreat
