import Derived.Test.YtgphljokbodciaaGreatProg
import Derived.Test.YtgphljokbodciaaGreatS10
namespace Go.Proofs.YtgphljokbodciaaGreat
set_option linter.unusedVariables false
set_option linter.unusedSimpArgs false
open Go.RowKit
structure Tm where
 k:Int
 i:Int
 n:ByteArray
 a:List Tm
mutual
def mf:Tm->List AV
 |⟨k,i,n,a⟩=>[iv k,iv i,.v (.string n),.sl false (CI a)]
def CI:List Tm->List (List AV)
 |[]=>[]
 |x::l=>mf x::CI l
end
theorem z7:∀ l,CI l=l.map mf
 |[]=>by rw [CI];rfl
 |x::l=>by rw [CI,z7 l];rfl
mutual
theorem Tm.UL {p:Tm->Prop}{q:List Tm->Prop}(hp:∀ k i n a,q a->p ⟨k,i,n,a⟩) (h0:q []) (h1:∀ x l,p x->q l->q (x::l)):∀ t,p t
 |⟨k,i,n,a⟩=>hp k i n a (Tm.O3 hp h0 h1 a)
theorem Tm.O3 {p:Tm->Prop}{q:List Tm->Prop}(hp:∀ k i n a,q a->p ⟨k,i,n,a⟩) (h0:q []) (h1:∀ x l,p x->q l->q (x::l)):∀ l,q l
 |[]=>h0
 |x::l=>h1 x l (Tm.UL hp h0 h1 x) (Tm.O3 hp h0 h1 l)
end
theorem Tm.ind {p:Tm->Prop}(h:∀ k i n (a:List Tm),(∀ x ∈ a,p x)->p ⟨k,i,n,a⟩) (t:Tm):p t :=
 Tm.UL (q:=fun l=>∀ x ∈ l,p x) h (fun x h=>by cases h) (fun x l hx hl y hy=>by rcases List.mem_cons.1 hy with rfl|hy;exact hx;exact hl y hy) t
def tl (ρ:Hd) (l:List Tm):AV:=bY ρ mf false l
def w5 (ρ:Hd) (x:Tm):List AV:=[iv x.k,iv x.i,.v (.string x.n),tl ρ x.a]
def tm (ρ:Hd) (x:Tm):AV:=.agg (w5 ρ x)
section
variable {ρ:Hd}
theorem rY (x:Tm):mf x=w5 ρ x:=by
 obtain⟨k,i,n,a⟩:=x
 rw [mf,z7,w5,tl,dE]
theorem wx (x:Tm):(mf x).length=4:=by rw [rY (ρ:=.plain)];rfl
theorem xL (x:Tm):∀ a ∈ mf x,Pure a:=by
 refine Tm.ind (p:=fun x=>∀ a ∈ mf x,Pure a) ?_ x
 intro k i n a ih b hb
 rw [mf] at hb
 simp only [List.mem_cons,List.not_mem_nil,or_false] at hb
 rcases hb with rfl|rfl|rfl|rfl
 ·exact .v
 ·exact .v
 ·exact .v
 ·rw [z7]
  exact .sl fun row hr c hc=>by
   obtain⟨x,hx,rfl⟩:=List.mem_map.1 hr
   exact ih x hx c hc
theorem bB (l:List Tm):Pure (tl ρ l):=e9 fun x _ a ha=>xL x a ha
theorem xM (x:Tm):∀ a ∈ w5 ρ x,Pure a:=by rw [<-rY];exact xL x
theorem bf (x:Tm):Pure (tm ρ x):=.agg (xM x)
theorem fL {l:List Tm}{i:Int}{k:Nat}{x:Tm}(hi:i=(k:Int)) (h:l[k]?=some x):idx (ρ.h (List.map mf) l) i=some (w5 ρ x):=by
 rw [ay hi h,rY]
theorem fM {l:List Tm}:∀ r ∈ ρ.h (List.map mf) l,r.length=4:=aw fun x=>wx x
end
structure At where
 n:ByteArray
 a:List Tm
structure Gl where
 op:Int
 n:ByteArray
 a:List Tm
structure Im where
 id:Int
 n:ByteArray
 a:List Tm
structure Bd where
 v:Int
 t:Tm
structure Fi where
 jM:Int
 ids:List Int
structure Rl where
 n:ByteArray
 aT:List At
 rem:List At
 guard:List Gl
 body:List Gl
 vars:Int
structure Dc where
 n:ByteArray
 ar:Int
structure Pg where
 ds:List Dc
 rs:List Rl
structure rZ where
 goals:List Gl
 store:List Im
 binds:List Bd
 b9:List Fi
 known:List Gl
 next:Int
 fresh:Int
 failed:Bool
def atR (ρ:Hd) (x:At):List AV:=[.v (.string x.n),tl ρ x.a]
def CJ (ρ:Hd) (x:Gl):List AV:=[iv x.op,.v (.string x.n),tl ρ x.a]
def O4 (ρ:Hd) (x:Im):List AV:=[iv x.id,.v (.string x.n),tl ρ x.a]
def Kw (ρ:Hd) (x:Bd):List AV:=[iv x.v,iv x.t.k,iv x.t.i,.v (.string x.t.n),tl ρ x.t.a]
def A8 (ρ:Hd) (x:Fi):List AV:=[iv x.jM,bY ρ bJ false x.ids]
def eK (ρ:Hd) (l:List At):AV:=bY ρ (atR ρ) false l
def dC (ρ:Hd) (l:List Gl):AV:=bY ρ (CJ ρ) false l
def fN (ρ:Hd) (l:List Im):AV:=bY ρ (O4 ρ) false l
def eL (ρ:Hd) (l:List Bd):AV:=bY ρ (Kw ρ) false l
def gW (ρ:Hd) (l:List Fi):AV:=bY ρ (A8 ρ) false l
def fW (ρ:Hd) (x:Rl):List AV:=[.v (.string x.n),eK ρ x.aT,eK ρ x.rem,dC ρ x.guard,dC ρ x.body,iv x.vars]
def Kx (x:Dc):List AV:=[.v (.string x.n),iv x.ar]
def dP (ρ:Hd) (l:List Dc):AV:=bY ρ Kx false l
def Fs (ρ:Hd) (l:List Rl):AV:=bY ρ (fW ρ) false l
def iY (ρ:Hd) (x:Pg):List AV:=[dP ρ x.ds,Fs ρ x.rs]
def UM (ρ:Hd) (x:rZ):List AV:=[dC ρ x.goals,fN ρ x.store,eL ρ x.binds,gW ρ x.b9,dC ρ x.known,iv x.next,iv x.fresh,.v (.bool x.failed)]
def at_ (ρ:Hd) (x:At):AV:=.agg (atR ρ x)
def gl (ρ:Hd) (x:Gl):AV:=.agg (CJ ρ x)
def it (ρ:Hd) (x:Im):AV:=.agg (O4 ρ x)
def bd (ρ:Hd) (x:Bd):AV:=.agg (Kw ρ x)
def fi (ρ:Hd) (x:Fi):AV:=.agg (A8 ρ x)
def rl (ρ:Hd) (x:Rl):AV:=.agg (fW ρ x)
def pg (ρ:Hd) (x:Pg):AV:=.agg (iY ρ x)
def sta (ρ:Hd) (x:rZ):AV:=.agg (UM ρ x)
section
variable {ρ:Hd}
theorem bR (l:List Int) {ex:Bool}:Pure (bY ρ bJ ex l):=e9 fun x _ a ha=>by
 obtain rfl:=List.mem_singleton.1 ha
 exact .v
theorem G0 {a b:AV}(ha:Pure a) (hb:Pure b):∀ c ∈ [a,b],Pure c:=by simp [ha,hb]
theorem UN {a b c:AV}(ha:Pure a) (hb:Pure b) (hc:Pure c):∀ d ∈ [a,b,c],Pure d:=by simp [ha,hb,hc]
theorem CK (x:At):∀ a ∈ atR ρ x,Pure a:=G0 .v (bB _)
theorem CL (x:Gl):∀ a ∈ CJ ρ x,Pure a:=UN .v .v (bB _)
theorem CM (x:Im):∀ a ∈ O4 ρ x,Pure a:=UN .v .v (bB _)
theorem CN (x:Bd):∀ a ∈ Kw ρ x,Pure a:=by simp [Kw,bB,Pure.v,iv]
theorem CO (x:Fi):∀ a ∈ A8 ρ x,Pure a:=G0 .v (bR _)
theorem fQ (l:List At):Pure (eK ρ l):=e9 fun x _ a ha=>CK x a ha
theorem cV (l:List Gl):Pure (dC ρ l):=e9 fun x _ a ha=>CL x a ha
theorem ct (l:List Im):Pure (fN ρ l):=e9 fun x _ a ha=>CM x a ha
theorem b8 (l:List Bd):Pure (eL ρ l):=e9 fun x _ a ha=>CN x a ha
theorem cN (l:List Fi):Pure (gW ρ l):=e9 fun x _ a ha=>CO x a ha
theorem tM (x:Rl):∀ a ∈ fW ρ x,Pure a:=by simp [fW,fQ,cV,Pure.v,iv]
theorem CP (x:Dc):∀ a ∈ Kx x,Pure a:=G0 .v .v
theorem cg (l:List Dc):Pure (dP ρ l):=e9 fun x _ a ha=>CP x a ha
theorem qI (l:List Rl):Pure (Fs ρ l):=e9 fun x _ a ha=>tM x a ha
theorem j7 (x:Pg):∀ a ∈ iY ρ x,Pure a:=G0 (cg _) (qI _)
theorem Mv (x:rZ):∀ a ∈ UM ρ x,Pure a:=by simp [UM,cV,ct,b8,cN,Pure.v,iv]
theorem cX (x:At):Pure (at_ ρ x):=.agg (CK x)
theorem eE (x:Gl):Pure (gl ρ x):=.agg (CL x)
theorem mV (x:Im):Pure (it ρ x):=.agg (CM x)
theorem ou (x:Bd):Pure (bd ρ x):=.agg (CN x)
theorem eh (x:Fi):Pure (fi ρ x):=.agg (CO x)
theorem iz (x:Rl):Pure (rl ρ x):=.agg (tM x)
theorem mW (x:Pg):Pure (pg ρ x):=.agg (j7 x)
theorem xN (x:rZ):Pure (sta ρ x):=.agg (Mv x)
end
theorem gq {P:Program}{w0:World}{rd:Bool}{n:Nat}{Q:Exit->AA->ae->Prop}(G:List Nat) {cf qF:QF}{α aB:AA}{S S':ae}(k:ab P w0 rd n Q qF aB S') (h:xK G 400 cf α S=(qF,aB,S'):=by conv=>lhs;cbv):ab P w0 rd n Q cf α S:=ab.goG G 400 h k
section
variable {P:Program}{w0:World}{rd dr:Bool}{n:Nat}{Q:Exit->AA->ae->Prop}{α:AA}{S S':ae}{i:QI}{l:List QI}{K:List iq}
theorem fq {ex:Exit}{r:AV}{qs:List QR}{R:AV->ae->Prop}(k:R r S') (h:tL qs ex α S=some (r,S'):=by conv=>lhs;cbv):ab P w0 rd n (nr qs R) (.out ex []) α S:=ab.fin h k
theorem bq {e:Bool}(k1:e=true->ab P w0 rd n Q (.bz dr l K) (cG i.d α (.v (.bool true))) S') (k2:e=false->ab P w0 rd n Q (.bz dr l K) (cG i.d α (.v (.bool false))) S') (hw:cb α.tm i.g=some true:=by rfl) (h:ad P w0 dr i.q α S (.v (.bool e)) S':=by exact ad.bit rfl):ab P w0 rd n Q (.bz dr (i::l) K) α S:=ab.bif hw h k1 k2
theorem az {ik:IntKind}{e:Int}(k:∀ d,d=e->ab P w0 rd n Q (.bz dr l K) (cG i.d α (.v (.int ik d))) S') (hw:cb α.tm i.g=some true:=by rfl) (h:ad P w0 dr i.q α S (.v (.int ik e)) S':=by exact ad.len rfl):ab P w0 rd n Q (.bz dr (i::l) K) α S:=ab.int hw h k
theorem aS {ik:IntKind}{e:Int}(k:∀ d,d=e->ab P w0 rd n Q (.bz dr l K) (cG i.d α (.v (.int ik d))) S') (hw:cb α.tm i.g=some true:=by rfl) (h:ad P w0 dr i.q α S (.v (.int ik e)) S':=by exact ad.yH rfl rfl rfl (by omega) (by omega)):ab P w0 rd n Q (.bz dr (i::l) K) α S:=ab.int hw h k
theorem cvq {ik:IntKind}{e:Int}(k:∀ d,d=e->ab P w0 rd n Q (.bz dr l K) (cG i.d α (.v (.int ik d))) S') (hw:cb α.tm i.g=some true:=by rfl) (h:ad P w0 dr i.q α S (.v (.int ik e)) S':=by exact ad.UO rfl (by omega) (by omega)):ab P w0 rd n Q (.bz dr (i::l) K) α S:=ab.int hw h k
end
theorem aq:(∀ (p:Prop) [Decidable p],(decide p=true)=p)/\(∀ (p:Prop) [Decidable p],(decide p=false)=¬ p)/\(∀ {α:Type} [BEq α] [LawfulBEq α] (a b:α),((a == b)=true)=(a=b))/\(∀ {α:Type} [BEq α] [LawfulBEq α] (a b:α),((a == b)=false)=¬ a=b)/\(∀ {α:Type} [BEq α] [LawfulBEq α] (a b:α),((a != b)=true)=¬ a=b)/\(∀ {α:Type} [BEq α] [LawfulBEq α] (a b:α),((a != b)=false)=(a=b)) /\
  (∀ b:Bool,(¬ b=true)=(b=false))/\(∀ b:Bool,(¬ b=false)=(b=true))/\(∀ b:Bool,((!b)=true)=(b=false))/\(∀ b:Bool,((!b)=false)=(b=true))/\(∀ {α:Type}(a b:α),(a ≠ b)=¬ a=b):=by
 refine⟨fun p _=>by simp,fun p _=>by simp,fun a b=>by simp,fun a b=>by simp,fun a b=>by simp,fun a b=>by simp,fun b=>by simp,fun b=>by simp,fun b=>by simp,fun b=>by simp,fun a b=>rfl⟩
theorem sq {P:Prop}(h:P:=by (repeat' (first|exact trivial|(refine⟨?_,?_⟩;first|exact .aC rfl .v|exact .aC rfl qp|exact .aC rfl (Pure.bM (by (first|exact .v|exact bB _|exact bR _|exact fQ _|exact cV _|exact ct _|exact b8 _|exact cN _|exact cg _|exact qI _|exact bf _|exact cX _|exact eE _|exact mV _|exact ou _|exact eh _|exact iz _|exact mW _|exact xN _|assumption)))|exact .aC rfl .u|exact .new rfl rfl|exact .ll rfl rfl|exact .iW rfl|exact .tN rfl rfl|exact .tO rfl rfl|exact .aC rfl (.pt (by decide))|exact .aC rfl (.mp (by decide))|exact .aC rfl (.gr (by decide))|exact .aC rfl (.ob (by decide))|exact .aC rfl (.yl (by decide)))))):P:=h
theorem kq {P:Prop}(h:P:=by (repeat' (first|exact trivial|(refine⟨?_,?_⟩;first|exact .aC .v|exact .aC qp|exact .aC (Pure.bM (by (first|exact .v|exact bB _|exact bR _|exact fQ _|exact cV _|exact ct _|exact b8 _|exact cN _|exact cg _|exact qI _|exact bf _|exact cX _|exact eE _|exact mV _|exact ou _|exact eh _|exact iz _|exact mW _|exact xN _|assumption)))|exact .ll rfl rfl|exact .iW|exact .aC (.pt (by decide))|exact .aC (.mp (by decide))|exact .aC (.gr (by decide))|exact .tN rfl rfl|exact .tO rfl rfl|exact .aC .u)))):P:=h
theorem cq {P:Prop}(h:P:=by exact⟨by (repeat' (first|exact trivial|(refine⟨?_,?_⟩;first|exact .aC rfl .v|exact .aC rfl qp|exact .aC rfl (Pure.bM (by (first|exact .v|exact bB _|exact bR _|exact fQ _|exact cV _|exact ct _|exact b8 _|exact cN _|exact cg _|exact qI _|exact bf _|exact cX _|exact eE _|exact mV _|exact ou _|exact eh _|exact iz _|exact mW _|exact xN _|assumption)))|exact .aC rfl .u|exact .new rfl rfl|exact .ll rfl rfl|exact .iW rfl|exact .tN rfl rfl|exact .tO rfl rfl|exact .aC rfl (.pt (by decide))|exact .aC rfl (.mp (by decide))|exact .aC rfl (.gr (by decide))|exact .aC rfl (.ob (by decide))|exact .aC rfl (.yl (by decide))))),rfl,trivial,rfl,rfl,rfl⟩):P:=h
abbrev CF (f:Func):={q:QC × List QR // Ci Tryz.progTables f=some q}
theorem aO {f:FuncId}{q:QC × List QR}{fn:Func}(hf:Tryz.prog.funcs[f]?=some fn) (hq:Ci Tryz.progTables fn=some q) (hc:∀ (xs:Array Value) (w:World),(callFunc f xs).run Tryz.prog w=.ok (.enter f xs) w) (hT:Tryz.prog.toTables=Tryz.progTables:=by rfl) (hd:yI Tryz.prog fn=true:=by kernel_rfl):aD Tryz.prog f q fn.ntmps:=aD.of hf hq hT rfl hd hc
end Go.Proofs.YtgphljokbodciaaGreat
