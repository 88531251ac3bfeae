import Derived.Test.YtbofilglphfceaaGreatProg
import Derived.Test.YtbofilglphfceaaGreatD19
namespace Go.Proofs.YtbofilglphfceaaGreat
set_option linter.unusedVariables false
set_option linter.unusedSimpArgs false
open Go.RowKit
structure Tm where
 k:Int
 i:Int
 n:ByteArray
 a:List Tm
mutual
def mI:Tm->List AV
 |⟨k,i,n,a⟩=>[iv k,iv i,.v (.string n),.sl false (u7 a)]
def u7:List Tm->List (List AV)
 |[]=>[]
 |x::l=>mI x::u7 l
end
theorem sE:∀ l,u7 l=l.map mI
 |[]=>by rw [u7];rfl
 |x::l=>by rw [u7,sE l];rfl
mutual
theorem Tm.I0 {p:Tm->Prop}{q:List Tm->Prop}(hp:∀ k i n a,q a->p ⟨k,i,n,a⟩) (h0:q []) (h1:∀ x l,p x->q l->q (x::l)):∀ t,p t
 |⟨k,i,n,a⟩=>hp k i n a (Tm.FZ hp h0 h1 a)
theorem Tm.FZ {p:Tm->Prop}{q:List Tm->Prop}(hp:∀ k i n a,q a->p ⟨k,i,n,a⟩) (h0:q []) (h1:∀ x l,p x->q l->q (x::l)):∀ l,q l
 |[]=>h0
 |x::l=>h1 x l (Tm.I0 hp h0 h1 x) (Tm.FZ hp h0 h1 l)
end
theorem Tm.ind {p:Tm->Prop}(h:∀ k i n (a:List Tm),(∀ x ∈ a,p x)->p ⟨k,i,n,a⟩) (t:Tm):p t :=
 Tm.I0 (q:=fun l=>∀ x ∈ l,p x) h (fun x h=>by cases h) (fun x l hx hl y hy=>by rcases List.mem_cons.1 hy with rfl|hy;exact hx;exact hl y hy) t
def tl (ρ:Hd) (l:List Tm):AV:=dZ ρ mI false l
def xq (ρ:Hd) (x:Tm):List AV:=[iv x.k,iv x.i,.v (.string x.n),tl ρ x.a]
def tm (ρ:Hd) (x:Tm):AV:=.agg (xq ρ x)
section
variable {ρ:Hd}
theorem pA (x:Tm):mI x=xq ρ x:=by
 obtain⟨k,i,n,a⟩:=x
 rw [mI,sE,xq,tl,jj]
theorem HJ (x:Tm):(mI x).length=4:=by rw [pA (ρ:=.plain)];rfl
theorem u_ (x:Tm):∀ a ∈ mI x,Pure a:=by
 refine Tm.ind (p:=fun x=>∀ a ∈ mI x,Pure a) ?_ x
 intro k i n a ih b hb
 rw [mI] at hb
 simp only [List.mem_cons,List.not_mem_nil,or_false] at hb
 rcases hb with rfl|rfl|rfl|rfl
 ·exact .v
 ·exact .v
 ·exact .v
 ·rw [sE]
  exact .sl fun row hr c hc=>by
   obtain⟨x,hx,rfl⟩:=List.mem_map.1 hr
   exact ih x hx c hc
theorem b8 (l:List Tm):Pure (tl ρ l):=fO fun x _ a ha=>u_ x a ha
theorem DV (x:Tm):∀ a ∈ xq ρ x,Pure a:=by rw [<-pA];exact u_ x
theorem bT (x:Tm):Pure (tm ρ x):=.agg (DV x)
theorem mJ {l:List Tm}{i:Int}{k:Nat}{x:Tm}(hi:i=(k:Int)) (h:l[k]?=some x):idx (ρ.h (List.map mI) l) i=some (xq ρ x):=by
 rw [bg hi h,pA]
theorem mK {l:List Tm}:∀ r ∈ ρ.h (List.map mI) l,r.length=4:=ba fun x=>HJ x
end
structure At where
 n:ByteArray
 a:List Tm
structure Gl where
 op:Int
 n:ByteArray
 a:List Tm
structure Im where
 id:Int
 n:ByteArray
 a:List Tm
structure Bd where
 v:Int
 t:Tm
structure Fi where
 qG:Int
 ids:List Int
structure Rl where
 n:ByteArray
 bR:List At
 rem:List At
 guard:List Gl
 body:List Gl
 vars:Int
structure Dc where
 n:ByteArray
 ar:Int
structure Pg where
 ds:List Dc
 rs:List Rl
structure eN where
 goals:List Gl
 store:List Im
 binds:List Bd
 cn:List Fi
 known:List Gl
 next:Int
 fresh:Int
 failed:Bool
def atR (ρ:Hd) (x:At):List AV:=[.v (.string x.n),tl ρ x.a]
def tI (ρ:Hd) (x:Gl):List AV:=[iv x.op,.v (.string x.n),tl ρ x.a]
def F0 (ρ:Hd) (x:Im):List AV:=[iv x.id,.v (.string x.n),tl ρ x.a]
def Cu (ρ:Hd) (x:Bd):List AV:=[iv x.v,iv x.t.k,iv x.t.i,.v (.string x.t.n),tl ρ x.t.a]
def xu (ρ:Hd) (x:Fi):List AV:=[iv x.qG,dZ ρ gH false x.ids]
def Cw (ρ:Hd) (l:List At):AV:=dZ ρ (atR ρ) false l
def gd (ρ:Hd) (l:List Gl):AV:=dZ ρ (tI ρ) false l
def ko (ρ:Hd) (l:List Im):AV:=dZ ρ (F0 ρ) false l
def kp (ρ:Hd) (l:List Bd):AV:=dZ ρ (Cu ρ) false l
def jC (ρ:Hd) (l:List Fi):AV:=dZ ρ (xu ρ) false l
def F2 (ρ:Hd) (x:Rl):List AV:=[.v (.string x.n),Cw ρ x.bR,Cw ρ x.rem,gd ρ x.guard,gd ρ x.body,iv x.vars]
def I1 (x:Dc):List AV:=[.v (.string x.n),iv x.ar]
def Pm (ρ:Hd) (l:List Dc):AV:=dZ ρ I1 false l
def Pn (ρ:Hd) (l:List Rl):AV:=dZ ρ (F2 ρ) false l
def I2 (ρ:Hd) (x:Pg):List AV:=[Pm ρ x.ds,Pn ρ x.rs]
def pX (ρ:Hd) (x:eN):List AV:=[gd ρ x.goals,ko ρ x.store,kp ρ x.binds,jC ρ x.cn,gd ρ x.known,iv x.next,iv x.fresh,.v (.bool x.failed)]
def at_ (ρ:Hd) (x:At):AV:=.agg (atR ρ x)
def gl (ρ:Hd) (x:Gl):AV:=.agg (tI ρ x)
def it (ρ:Hd) (x:Im):AV:=.agg (F0 ρ x)
def bd (ρ:Hd) (x:Bd):AV:=.agg (Cu ρ x)
def fi (ρ:Hd) (x:Fi):AV:=.agg (xu ρ x)
def rl (ρ:Hd) (x:Rl):AV:=.agg (F2 ρ x)
def pg (ρ:Hd) (x:Pg):AV:=.agg (I2 ρ x)
def l8 (ρ:Hd) (x:eN):AV:=.agg (pX ρ x)
section
variable {ρ:Hd}
theorem fB (l:List Int) {ex:Bool}:Pure (dZ ρ gH ex l):=fO fun x _ a ha=>by
 obtain rfl:=List.mem_singleton.1 ha
 exact .v
theorem yF {a b:AV}(ha:Pure a) (hb:Pure b):∀ c ∈ [a,b],Pure c:=by simp [ha,hb]
theorem I3 {a b c:AV}(ha:Pure a) (hb:Pure b) (hc:Pure c):∀ d ∈ [a,b,c],Pure d:=by simp [ha,hb,hc]
theorem va (x:At):∀ a ∈ atR ρ x,Pure a:=yF .v (b8 _)
theorem lE (x:Gl):∀ a ∈ tI ρ x,Pure a:=I3 .v .v (b8 _)
theorem vb (x:Im):∀ a ∈ F0 ρ x,Pure a:=I3 .v .v (b8 _)
theorem vc (x:Bd):∀ a ∈ Cu ρ x,Pure a:=by simp [Cu,b8,Pure.v,iv]
theorem vd (x:Fi):∀ a ∈ xu ρ x,Pure a:=yF .v (fB _)
theorem jP (l:List At):Pure (Cw ρ l):=fO fun x _ a ha=>va x a ha
theorem bW (l:List Gl):Pure (gd ρ l):=fO fun x _ a ha=>lE x a ha
theorem cX (l:List Im):Pure (ko ρ l):=fO fun x _ a ha=>vb x a ha
theorem cY (l:List Bd):Pure (kp ρ l):=fO fun x _ a ha=>vc x a ha
theorem cZ (l:List Fi):Pure (jC ρ l):=fO fun x _ a ha=>vd x a ha
theorem ve (x:Rl):∀ a ∈ F2 ρ x,Pure a:=by simp [F2,jP,bW,Pure.v,iv]
theorem DW (x:Dc):∀ a ∈ I1 x,Pure a:=yF .v .v
theorem nv (l:List Dc):Pure (Pm ρ l):=fO fun x _ a ha=>DW x a ha
theorem ny (l:List Rl):Pure (Pn ρ l):=fO fun x _ a ha=>ve x a ha
theorem DX (x:Pg):∀ a ∈ I2 ρ x,Pure a:=yF (nv _) (ny _)
theorem DY (x:eN):∀ a ∈ pX ρ x,Pure a:=by simp [pX,bW,cX,cY,cZ,Pure.v,iv]
theorem fC (x:At):Pure (at_ ρ x):=.agg (va x)
theorem dS (x:Gl):Pure (gl ρ x):=.agg (lE x)
theorem mL (x:Im):Pure (it ρ x):=.agg (vb x)
theorem mM (x:Bd):Pure (bd ρ x):=.agg (vc x)
theorem hD (x:Fi):Pure (fi ρ x):=.agg (vd x)
theorem sF (x:Rl):Pure (rl ρ x):=.agg (ve x)
theorem mN (x:Pg):Pure (pg ρ x):=.agg (DX x)
theorem fa (x:eN):Pure (l8 ρ x):=.agg (DY x)
end
theorem gq {P:Program}{w0:World}{rd:Bool}{n:Nat}{Q:Exit->AA->U->Prop}(G:List Nat) {cf lx:QF}{α af:AA}{S S':U}(k:ab P w0 rd n Q lx af S') (h:qF G 400 cf α S=(lx,af,S'):=by conv=>lhs;cbv):ab P w0 rd n Q cf α S:=ab.SB G 400 h k
section
variable {P:Program}{w0:World}{rd dr:Bool}{n:Nat}{Q:Exit->AA->U->Prop}{α:AA}{S S':U}{i:QI}{l:List QI}{K:List ji}
theorem fq {ex:Exit}{r:AV}{qs:List QR}{R:AV->U->Prop}(k:R r S') (h:qz qs ex α S=some (r,S'):=by conv=>lhs;cbv):ab P w0 rd n (lA qs R) (.out ex []) α S:=ab.fin h k
theorem bq {e:Bool}(k1:e=true->ab P w0 rd n Q (.bB dr l K) (cH i.d α (.v (.bool true))) S') (k2:e=false->ab P w0 rd n Q (.bB dr l K) (cH i.d α (.v (.bool false))) S') (hw:ca α.tm i.g=some true:=by rfl) (h:aa P w0 dr i.q α S (.v (.bool e)) S':=by exact aa.bit rfl):ab P w0 rd n Q (.bB dr (i::l) K) α S:=ab.bif hw h k1 k2
theorem aS {ik:IntKind}{e:Int}(k:∀ d,d=e->ab P w0 rd n Q (.bB dr l K) (cH i.d α (.v (.int ik d))) S') (hw:ca α.tm i.g=some true:=by rfl) (h:aa P w0 dr i.q α S (.v (.int ik e)) S':=by exact aa.len rfl):ab P w0 rd n Q (.bB dr (i::l) K) α S:=ab.int hw h k
theorem cQ {ik:IntKind}{e:Int}(k:∀ d,d=e->ab P w0 rd n Q (.bB dr l K) (cH i.d α (.v (.int ik d))) S') (hw:ca α.tm i.g=some true:=by rfl) (h:aa P w0 dr i.q α S (.v (.int ik e)) S':=by exact aa.La rfl rfl rfl (by omega) (by omega)):ab P w0 rd n Q (.bB dr (i::l) K) α S:=ab.int hw h k
theorem xw {ik:IntKind}{e:Int}(k:∀ d,d=e->ab P w0 rd n Q (.bB dr l K) (cH i.d α (.v (.int ik d))) S') (hw:ca α.tm i.g=some true:=by rfl) (h:aa P w0 dr i.q α S (.v (.int ik e)) S':=by exact aa.Ix rfl (by omega) (by omega)):ab P w0 rd n Q (.bB dr (i::l) K) α S:=ab.int hw h k
end
theorem aJ:(∀ (p:Prop) [Decidable p],(decide p=true)=p)/\(∀ (p:Prop) [Decidable p],(decide p=false)=¬ p)/\(∀ {α:Type} [BEq α] [LawfulBEq α] (a b:α),((a == b)=true)=(a=b))/\(∀ {α:Type} [BEq α] [LawfulBEq α] (a b:α),((a == b)=false)=¬ a=b)/\(∀ {α:Type} [BEq α] [LawfulBEq α] (a b:α),((a != b)=true)=¬ a=b)/\(∀ {α:Type} [BEq α] [LawfulBEq α] (a b:α),((a != b)=false)=(a=b)) /\
  (∀ b:Bool,(¬ b=true)=(b=false))/\(∀ b:Bool,(¬ b=false)=(b=true))/\(∀ b:Bool,((!b)=true)=(b=false))/\(∀ b:Bool,((!b)=false)=(b=true))/\(∀ {α:Type}(a b:α),(a ≠ b)=¬ a=b):=by
 refine⟨fun p _=>by simp,fun p _=>by simp,fun a b=>by simp,fun a b=>by simp,fun a b=>by simp,fun a b=>by simp,fun b=>by simp,fun b=>by simp,fun b=>by simp,fun b=>by simp,fun a b=>rfl⟩
theorem sq {P:Prop}(h:P:=by (repeat' (first|exact trivial|(refine⟨?_,?_⟩;first|exact .aV rfl .v|exact .aV rfl sy|exact .aV rfl (Pure.d_ (by (first|exact .v|exact b8 _|exact fB _|exact jP _|exact bW _|exact cX _|exact cY _|exact cZ _|exact nv _|exact ny _|exact bT _|exact fC _|exact dS _|exact mL _|exact mM _|exact hD _|exact sF _|exact mN _|exact fa _|assumption)))|exact .aV rfl .u|exact .new rfl rfl|exact .nk rfl rfl|exact .im rfl|exact .nm rfl rfl|exact .nn rfl rfl|exact .aV rfl (.pt (by decide))|exact .aV rfl (.mp (by decide))|exact .aV rfl (.gr (by decide))|exact .aV rfl (.ob (by decide))|exact .aV rfl (.yl (by decide)))))):P:=h
theorem kq {P:Prop}(h:P:=by (repeat' (first|exact trivial|(refine⟨?_,?_⟩;first|exact .aV .v|exact .aV sy|exact .aV (Pure.d_ (by (first|exact .v|exact b8 _|exact fB _|exact jP _|exact bW _|exact cX _|exact cY _|exact cZ _|exact nv _|exact ny _|exact bT _|exact fC _|exact dS _|exact mL _|exact mM _|exact hD _|exact sF _|exact mN _|exact fa _|assumption)))|exact .nk rfl rfl|exact .im|exact .aV (.pt (by decide))|exact .aV (.mp (by decide))|exact .aV (.gr (by decide))|exact .nm rfl rfl|exact .nn rfl rfl|exact .aV .u)))):P:=h
theorem cq {P:Prop}(h:P:=by exact⟨by (repeat' (first|exact trivial|(refine⟨?_,?_⟩;first|exact .aV rfl .v|exact .aV rfl sy|exact .aV rfl (Pure.d_ (by (first|exact .v|exact b8 _|exact fB _|exact jP _|exact bW _|exact cX _|exact cY _|exact cZ _|exact nv _|exact ny _|exact bT _|exact fC _|exact dS _|exact mL _|exact mM _|exact hD _|exact sF _|exact mN _|exact fa _|assumption)))|exact .aV rfl .u|exact .new rfl rfl|exact .nk rfl rfl|exact .im rfl|exact .nm rfl rfl|exact .nn rfl rfl|exact .aV rfl (.pt (by decide))|exact .aV rfl (.mp (by decide))|exact .aV rfl (.gr (by decide))|exact .aV rfl (.ob (by decide))|exact .aV rfl (.yl (by decide))))),rfl,trivial,rfl,rfl,rfl⟩):P:=h
abbrev CF (f:Func):={q:QC × List QR // ur Tryz.progTables f=some q}
theorem cd {f:FuncId}{q:QC × List QR}{fn:Func}(hf:Tryz.prog.funcs[f]?=some fn) (hq:ur Tryz.progTables fn=some q) (hc:∀ (xs:Array Value) (w:World),(callFunc f xs).run Tryz.prog w=.ok (.enter f xs) w) (hT:Tryz.prog.toTables=Tryz.progTables:=by rfl) (hd:rz Tryz.prog fn=true:=by kernel_rfl):bN Tryz.prog f q fn.ntmps:=bN.of hf hq hT rfl hd hc
end Go.Proofs.YtbofilglphfceaaGreat
