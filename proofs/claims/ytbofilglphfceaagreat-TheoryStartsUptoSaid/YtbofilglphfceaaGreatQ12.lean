import Derived.Test.YtbofilglphfceaaGreatProg
import Derived.Test.YtbofilglphfceaaGreatQ11
namespace Go.Proofs.YtbofilglphfceaaGreat
set_option linter.unusedVariables false
set_option linter.unusedSimpArgs false
open Go.RowKit
structure Tm where
 k:Int
 i:Int
 n:ByteArray
 a:List Tm
mutual
def lN:Tm->List AV
 |⟨k,i,n,a⟩=>[iv k,iv i,.v (.string n),.sl false (B7 a)]
def B7:List Tm->List (List AV)
 |[]=>[]
 |x::l=>lN x::B7 l
end
theorem zq:∀ l,B7 l=l.map lN
 |[]=>by rw [B7];rfl
 |x::l=>by rw [B7,zq l];rfl
mutual
theorem Tm.Su {p:Tm->Prop}{q:List Tm->Prop}(hp:∀ k i n a,q a->p ⟨k,i,n,a⟩) (h0:q []) (h1:∀ x l,p x->q l->q (x::l)):∀ t,p t
 |⟨k,i,n,a⟩=>hp k i n a (Tm.Nm hp h0 h1 a)
theorem Tm.Nm {p:Tm->Prop}{q:List Tm->Prop}(hp:∀ k i n a,q a->p ⟨k,i,n,a⟩) (h0:q []) (h1:∀ x l,p x->q l->q (x::l)):∀ l,q l
 |[]=>h0
 |x::l=>h1 x l (Tm.Su hp h0 h1 x) (Tm.Nm hp h0 h1 l)
end
theorem Tm.ind {p:Tm->Prop}(h:∀ k i n (a:List Tm),(∀ x ∈ a,p x)->p ⟨k,i,n,a⟩) (t:Tm):p t :=
 Tm.Su (q:=fun l=>∀ x ∈ l,p x) h (fun x h=>by cases h) (fun x l hx hl y hy=>by rcases List.mem_cons.1 hy with rfl|hy;exact hx;exact hl y hy) t
def tl (ρ:Hd) (l:List Tm):AV:=b8 ρ lN false l
def v7 (ρ:Hd) (x:Tm):List AV:=[iv x.k,iv x.i,.v (.string x.n),tl ρ x.a]
def tm (ρ:Hd) (x:Tm):AV:=.agg (v7 ρ x)
section
variable {ρ:Hd}
theorem qP (x:Tm):lN x=v7 ρ x:=by
 obtain⟨k,i,n,a⟩:=x
 rw [lN,zq,v7,tl,dx]
theorem vE (x:Tm):(lN x).length=4:=by rw [qP (ρ:=.plain)];rfl
theorem wS (x:Tm):∀ a ∈ lN x,Pure a:=by
 refine Tm.ind (p:=fun x=>∀ a ∈ lN x,Pure a) ?_ x
 intro k i n a ih b hb
 rw [lN] at hb
 simp only [List.mem_cons,List.not_mem_nil,or_false] at hb
 rcases hb with rfl|rfl|rfl|rfl
 ·exact .v
 ·exact .v
 ·exact .v
 ·rw [zq]
  exact .sl fun row hr c hc=>by
   obtain⟨x,hx,rfl⟩:=List.mem_map.1 hr
   exact ih x hx c hc
theorem bC (l:List Tm):Pure (tl ρ l):=h_ fun x _ a ha=>wS x a ha
theorem wT (x:Tm):∀ a ∈ v7 ρ x,Pure a:=by rw [<-qP];exact wS x
theorem ba (x:Tm):Pure (tm ρ x):=.agg (wT x)
theorem ft {l:List Tm}{i:Int}{k:Nat}{x:Tm}(hi:i=(k:Int)) (h:l[k]?=some x):idx (ρ.h (List.map lN) l) i=some (v7 ρ x):=by
 rw [ay hi h,qP]
theorem fu {l:List Tm}:∀ r ∈ ρ.h (List.map lN) l,r.length=4:=aw fun x=>vE x
end
structure At where
 n:ByteArray
 a:List Tm
structure Gl where
 op:Int
 n:ByteArray
 a:List Tm
structure Im where
 id:Int
 n:ByteArray
 a:List Tm
structure Bd where
 v:Int
 t:Tm
structure Fi where
 kG:Int
 ids:List Int
structure Rl where
 n:ByteArray
 aV:List At
 rem:List At
 guard:List Gl
 body:List Gl
 vars:Int
structure Dc where
 n:ByteArray
 ar:Int
structure Pg where
 ds:List Dc
 rs:List Rl
structure dP where
 goals:List Gl
 store:List Im
 binds:List Bd
 cg:List Fi
 known:List Gl
 next:Int
 fresh:Int
 failed:Bool
def atR (ρ:Hd) (x:At):List AV:=[.v (.string x.n),tl ρ x.a]
def BF (ρ:Hd) (x:Gl):List AV:=[iv x.op,.v (.string x.n),tl ρ x.a]
def M9 (ρ:Hd) (x:Im):List AV:=[iv x.id,.v (.string x.n),tl ρ x.a]
def IL (ρ:Hd) (x:Bd):List AV:=[iv x.v,iv x.t.k,iv x.t.i,.v (.string x.t.n),tl ρ x.t.a]
def Ag (ρ:Hd) (x:Fi):List AV:=[iv x.kG,b8 ρ bF false x.ids]
def eO (ρ:Hd) (l:List At):AV:=b8 ρ (atR ρ) false l
def cO (ρ:Hd) (l:List Gl):AV:=b8 ρ (BF ρ) false l
def fJ (ρ:Hd) (l:List Im):AV:=b8 ρ (M9 ρ) false l
def eJ (ρ:Hd) (l:List Bd):AV:=b8 ρ (IL ρ) false l
def gO (ρ:Hd) (l:List Fi):AV:=b8 ρ (Ag ρ) false l
def fZ (ρ:Hd) (x:Rl):List AV:=[.v (.string x.n),eO ρ x.aV,eO ρ x.rem,cO ρ x.guard,cO ρ x.body,iv x.vars]
def IM (x:Dc):List AV:=[.v (.string x.n),iv x.ar]
def dG (ρ:Hd) (l:List Dc):AV:=b8 ρ IM false l
def Ep (ρ:Hd) (l:List Rl):AV:=b8 ρ (fZ ρ) false l
def lO (ρ:Hd) (x:Pg):List AV:=[dG ρ x.ds,Ep ρ x.rs]
def BG (ρ:Hd) (x:dP):List AV:=[cO ρ x.goals,fJ ρ x.store,eJ ρ x.binds,gO ρ x.cg,cO ρ x.known,iv x.next,iv x.fresh,.v (.bool x.failed)]
def at_ (ρ:Hd) (x:At):AV:=.agg (atR ρ x)
def gl (ρ:Hd) (x:Gl):AV:=.agg (BF ρ x)
def it (ρ:Hd) (x:Im):AV:=.agg (M9 ρ x)
def bd (ρ:Hd) (x:Bd):AV:=.agg (IL ρ x)
def fi (ρ:Hd) (x:Fi):AV:=.agg (Ag ρ x)
def rl (ρ:Hd) (x:Rl):AV:=.agg (fZ ρ x)
def pg (ρ:Hd) (x:Pg):AV:=.agg (lO ρ x)
def r5 (ρ:Hd) (x:dP):AV:=.agg (BG ρ x)
section
variable {ρ:Hd}
theorem bQ (l:List Int) {ex:Bool}:Pure (b8 ρ bF ex l):=h_ fun x _ a ha=>by
 obtain rfl:=List.mem_singleton.1 ha
 exact .v
theorem FT {a b:AV}(ha:Pure a) (hb:Pure b):∀ c ∈ [a,b],Pure c:=by simp [ha,hb]
theorem Sv {a b c:AV}(ha:Pure a) (hb:Pure b) (hc:Pure c):∀ d ∈ [a,b,c],Pure d:=by simp [ha,hb,hc]
theorem B8 (x:At):∀ a ∈ atR ρ x,Pure a:=FT .v (bC _)
theorem B9 (x:Gl):∀ a ∈ BF ρ x,Pure a:=Sv .v .v (bC _)
theorem B_ (x:Im):∀ a ∈ M9 ρ x,Pure a:=Sv .v .v (bC _)
theorem Ca (x:Bd):∀ a ∈ IL ρ x,Pure a:=by simp [IL,bC,Pure.v,iv]
theorem Cb (x:Fi):∀ a ∈ Ag ρ x,Pure a:=FT .v (bQ _)
theorem gy (l:List At):Pure (eO ρ l):=h_ fun x _ a ha=>B8 x a ha
theorem bw (l:List Gl):Pure (cO ρ l):=h_ fun x _ a ha=>B9 x a ha
theorem cb (l:List Im):Pure (fJ ρ l):=h_ fun x _ a ha=>B_ x a ha
theorem bT (l:List Bd):Pure (eJ ρ l):=h_ fun x _ a ha=>Ca x a ha
theorem cJ (l:List Fi):Pure (gO ρ l):=h_ fun x _ a ha=>Cb x a ha
theorem sV (x:Rl):∀ a ∈ fZ ρ x,Pure a:=by simp [fZ,gy,bw,Pure.v,iv]
theorem Cc (x:Dc):∀ a ∈ IM x,Pure a:=FT .v .v
theorem bU (l:List Dc):Pure (dG ρ l):=h_ fun x _ a ha=>Cc x a ha
theorem kH (l:List Rl):Pure (Ep ρ l):=h_ fun x _ a ha=>sV x a ha
theorem wU (x:Pg):∀ a ∈ lO ρ x,Pure a:=FT (bU _) (kH _)
theorem K2 (x:dP):∀ a ∈ BG ρ x,Pure a:=by simp [BG,bw,cb,bT,cJ,Pure.v,iv]
theorem de (x:At):Pure (at_ ρ x):=.agg (B8 x)
theorem dy (x:Gl):Pure (gl ρ x):=.agg (B9 x)
theorem nH (x:Im):Pure (it ρ x):=.agg (B_ x)
theorem pH (x:Bd):Pure (bd ρ x):=.agg (Ca x)
theorem eu (x:Fi):Pure (fi ρ x):=.agg (Cb x)
theorem js (x:Rl):Pure (rl ρ x):=.agg (sV x)
theorem nF (x:Pg):Pure (pg ρ x):=.agg (wU x)
theorem l4 (x:dP):Pure (r5 ρ x):=.agg (K2 x)
end
theorem gq {P:Program}{w0:World}{rd:Bool}{n:Nat}{Q:Exit->AA->ae->Prop}(G:List Nat) {cf pR:QF}{α aA:AA}{S S':ae}(k:ab P w0 rd n Q pR aA S') (h:wR G 400 cf α S=(pR,aA,S'):=by conv=>lhs;cbv):ab P w0 rd n Q cf α S:=ab.goG G 400 h k
section
variable {P:Program}{w0:World}{rd dr:Bool}{n:Nat}{Q:Exit->AA->ae->Prop}{α:AA}{S S':ae}{i:QI}{l:List QI}{K:List iC}
theorem fq {ex:Exit}{r:AV}{qs:List QR}{R:AV->ae->Prop}(k:R r S') (h:sU qs ex α S=some (r,S'):=by conv=>lhs;cbv):ab P w0 rd n (mO qs R) (.out ex []) α S:=ab.fin h k
theorem bq {e:Bool}(k1:e=true->ab P w0 rd n Q (.bD dr l K) (cD i.d α (.v (.bool true))) S') (k2:e=false->ab P w0 rd n Q (.bD dr l K) (cD i.d α (.v (.bool false))) S') (hw:cj α.tm i.g=some true:=by rfl) (h:ad P w0 dr i.q α S (.v (.bool e)) S':=by exact ad.bit rfl):ab P w0 rd n Q (.bD dr (i::l) K) α S:=ab.a_ hw h k1 k2
theorem aB {ik:IntKind}{e:Int}(k:∀ d,d=e->ab P w0 rd n Q (.bD dr l K) (cD i.d α (.v (.int ik d))) S') (hw:cj α.tm i.g=some true:=by rfl) (h:ad P w0 dr i.q α S (.v (.int ik e)) S':=by exact ad.len rfl):ab P w0 rd n Q (.bD dr (i::l) K) α S:=ab.int hw h k
theorem aS {ik:IntKind}{e:Int}(k:∀ d,d=e->ab P w0 rd n Q (.bD dr l K) (cD i.d α (.v (.int ik d))) S') (hw:cj α.tm i.g=some true:=by rfl) (h:ad P w0 dr i.q α S (.v (.int ik e)) S':=by exact ad.xS rfl rfl rfl (by omega) (by omega)):ab P w0 rd n Q (.bD dr (i::l) K) α S:=ab.int hw h k
theorem cvq {ik:IntKind}{e:Int}(k:∀ d,d=e->ab P w0 rd n Q (.bD dr l K) (cD i.d α (.v (.int ik d))) S') (hw:cj α.tm i.g=some true:=by rfl) (h:ad P w0 dr i.q α S (.v (.int ik e)) S':=by exact ad.Sw rfl (by omega) (by omega)):ab P w0 rd n Q (.bD dr (i::l) K) α S:=ab.int hw h k
end
theorem aq:(∀ (p:Prop) [Decidable p],(decide p=true)=p)/\(∀ (p:Prop) [Decidable p],(decide p=false)=¬ p)/\(∀ {α:Type} [BEq α] [LawfulBEq α] (a b:α),((a == b)=true)=(a=b))/\(∀ {α:Type} [BEq α] [LawfulBEq α] (a b:α),((a == b)=false)=¬ a=b)/\(∀ {α:Type} [BEq α] [LawfulBEq α] (a b:α),((a != b)=true)=¬ a=b)/\(∀ {α:Type} [BEq α] [LawfulBEq α] (a b:α),((a != b)=false)=(a=b)) /\
  (∀ b:Bool,(¬ b=true)=(b=false))/\(∀ b:Bool,(¬ b=false)=(b=true))/\(∀ b:Bool,((!b)=true)=(b=false))/\(∀ b:Bool,((!b)=false)=(b=true))/\(∀ {α:Type}(a b:α),(a ≠ b)=¬ a=b):=by
 refine⟨fun p _=>by simp,fun p _=>by simp,fun a b=>by simp,fun a b=>by simp,fun a b=>by simp,fun a b=>by simp,fun b=>by simp,fun b=>by simp,fun b=>by simp,fun b=>by simp,fun a b=>rfl⟩
theorem sq {P:Prop}(h:P:=by (repeat' (first|exact trivial|(refine⟨?_,?_⟩;first|exact .aD rfl .v|exact .aD rfl sf|exact .aD rfl (Pure.b_ (by (first|exact .v|exact bC _|exact bQ _|exact gy _|exact bw _|exact cb _|exact bT _|exact cJ _|exact bU _|exact kH _|exact ba _|exact de _|exact dy _|exact nH _|exact pH _|exact eu _|exact js _|exact nF _|exact l4 _|assumption)))|exact .aD rfl .u|exact .new rfl rfl|exact .lI rfl rfl|exact .iQ rfl|exact .sW rfl rfl|exact .sX rfl rfl|exact .aD rfl (.pt (by decide))|exact .aD rfl (.mp (by decide))|exact .aD rfl (.gr (by decide))|exact .aD rfl (.ob (by decide))|exact .aD rfl (.yl (by decide)))))):P:=h
theorem kq {P:Prop}(h:P:=by (repeat' (first|exact trivial|(refine⟨?_,?_⟩;first|exact .aD .v|exact .aD sf|exact .aD (Pure.b_ (by (first|exact .v|exact bC _|exact bQ _|exact gy _|exact bw _|exact cb _|exact bT _|exact cJ _|exact bU _|exact kH _|exact ba _|exact de _|exact dy _|exact nH _|exact pH _|exact eu _|exact js _|exact nF _|exact l4 _|assumption)))|exact .lI rfl rfl|exact .iQ|exact .aD (.pt (by decide))|exact .aD (.mp (by decide))|exact .aD (.gr (by decide))|exact .sW rfl rfl|exact .sX rfl rfl|exact .aD .u)))):P:=h
theorem cq {P:Prop}(h:P:=by exact⟨by (repeat' (first|exact trivial|(refine⟨?_,?_⟩;first|exact .aD rfl .v|exact .aD rfl sf|exact .aD rfl (Pure.b_ (by (first|exact .v|exact bC _|exact bQ _|exact gy _|exact bw _|exact cb _|exact bT _|exact cJ _|exact bU _|exact kH _|exact ba _|exact de _|exact dy _|exact nH _|exact pH _|exact eu _|exact js _|exact nF _|exact l4 _|assumption)))|exact .aD rfl .u|exact .new rfl rfl|exact .lI rfl rfl|exact .iQ rfl|exact .sW rfl rfl|exact .sX rfl rfl|exact .aD rfl (.pt (by decide))|exact .aD rfl (.mp (by decide))|exact .aD rfl (.gr (by decide))|exact .aD rfl (.ob (by decide))|exact .aD rfl (.yl (by decide))))),rfl,trivial,rfl,rfl,rfl⟩):P:=h
abbrev CF (f:Func):={q:QC × List QR // Bn Tryz.progTables f=some q}
theorem aQ {f:FuncId}{q:QC × List QR}{fn:Func}(hf:Tryz.prog.funcs[f]?=some fn) (hq:Bn Tryz.progTables fn=some q) (hc:∀ (xs:Array Value) (w:World),(callFunc f xs).run Tryz.prog w=.ok (.enter f xs) w) (hT:Tryz.prog.toTables=Tryz.progTables:=by rfl) (hd:xT Tryz.prog fn=true:=by kernel_rfl):aH Tryz.prog f q fn.ntmps:=aH.of hf hq hT rfl hd hc
end Go.Proofs.YtbofilglphfceaaGreat
