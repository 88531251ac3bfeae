import Derived.Test.YtgjfgekaclobaaaGreatProg
import Derived.Test.YtgjfgekaclobaaaGreatCm20
namespace Go.Proofs.YtgjfgekaclobaaaGreat
set_option linter.unusedVariables false
set_option linter.unusedSimpArgs false
open Go.RowKit
structure Tm where
 k:Int
 i:Int
 n:ByteArray
 a:List Tm
mutual
def mL:Tm->List AV
 |⟨k,i,n,a⟩=>[iv k,iv i,.v (.string n),.sl false (yF a)]
def yF:List Tm->List (List AV)
 |[]=>[]
 |x::l=>mL x::yF l
end
theorem yG:∀ l,yF l=l.map mL
 |[]=>by rw [yF];rfl
 |x::l=>by rw [yF,yG l];rfl
mutual
theorem Tm.Sd {p:Tm->Prop}{q:List Tm->Prop}(hp:∀ k i n a,q a->p ⟨k,i,n,a⟩) (h0:q []) (h1:∀ x l,p x->q l->q (x::l)):∀ t,p t
 |⟨k,i,n,a⟩=>hp k i n a (Tm.NI hp h0 h1 a)
theorem Tm.NI {p:Tm->Prop}{q:List Tm->Prop}(hp:∀ k i n a,q a->p ⟨k,i,n,a⟩) (h0:q []) (h1:∀ x l,p x->q l->q (x::l)):∀ l,q l
 |[]=>h0
 |x::l=>h1 x l (Tm.Sd hp h0 h1 x) (Tm.NI hp h0 h1 l)
end
theorem Tm.ind {p:Tm->Prop}(h:∀ k i n (a:List Tm),(∀ x ∈ a,p x)->p ⟨k,i,n,a⟩) (t:Tm):p t :=
 Tm.Sd (q:=fun l=>∀ x ∈ l,p x) h (fun x h=>by cases h) (fun x l hx hl y hy=>by rcases List.mem_cons.1 hy with rfl|hy;exact hx;exact hl y hy) t
def tl (ρ:Hd) (l:List Tm):AV:=dw ρ mL false l
def pB (ρ:Hd) (x:Tm):List AV:=[iv x.k,iv x.i,.v (.string x.n),tl ρ x.a]
def tm (ρ:Hd) (x:Tm):AV:=.agg (pB ρ x)
section
variable {ρ:Hd}
theorem xw (x:Tm):mL x=pB ρ x:=by
 obtain⟨k,i,n,a⟩:=x
 rw [mL,yG,pB,tl,ij]
theorem DY (x:Tm):(mL x).length=4:=by rw [xw (ρ:=.plain)];rfl
theorem wh (x:Tm):∀ a ∈ mL x,Pure a:=by
 refine Tm.ind (p:=fun x=>∀ a ∈ mL x,Pure a) ?_ x
 intro k i n a ih b hb
 rw [mL] at hb
 simp only [List.mem_cons,List.not_mem_nil,or_false] at hb
 rcases hb with rfl|rfl|rfl|rfl
 ·exact .v
 ·exact .v
 ·exact .v
 ·rw [yG]
  exact .sl fun row hr c hc=>by
   obtain⟨x,hx,rfl⟩:=List.mem_map.1 hr
   exact ih x hx c hc
theorem cy (l:List Tm):Pure (tl ρ l):=eR fun x _ a ha=>wh x a ha
theorem rH (x:Tm):∀ a ∈ pB ρ x,Pure a:=by rw [<-xw];exact wh x
theorem dN (x:Tm):Pure (tm ρ x):=.agg (rH x)
theorem qA {l:List Tm}{i:Int}{k:Nat}{x:Tm}(hi:i=(k:Int)) (h:l[k]?=some x):idx (ρ.h (List.map mL) l) i=some (pB ρ x):=by
 rw [ky hi h,xw]
theorem qB {l:List Tm}:∀ r ∈ ρ.h (List.map mL) l,r.length=4:=kz fun x=>DY x
end
structure At where
 n:ByteArray
 a:List Tm
structure Gl where
 op:Int
 n:ByteArray
 a:List Tm
structure Im where
 id:Int
 n:ByteArray
 a:List Tm
structure Bd where
 v:Int
 t:Tm
structure Fi where
 aaq:Int
 ids:List Int
structure Rl where
 n:ByteArray
 cD:List At
 rem:List At
 guard:List Gl
 body:List Gl
 vars:Int
structure Dc where
 n:ByteArray
 ar:Int
structure Pg where
 ds:List Dc
 rs:List Rl
structure NJ where
 goals:List Gl
 store:List Im
 binds:List Bd
 UD:List Fi
 known:List Gl
 next:Int
 fresh:Int
 failed:Bool
def atR (ρ:Hd) (x:At):List AV:=[.v (.string x.n),tl ρ x.a]
def Se (ρ:Hd) (x:Gl):List AV:=[iv x.op,.v (.string x.n),tl ρ x.a]
def Sf (ρ:Hd) (x:Im):List AV:=[iv x.id,.v (.string x.n),tl ρ x.a]
def pC (ρ:Hd) (x:Bd):List AV:=[iv x.v,iv x.t.k,iv x.t.i,.v (.string x.t.n),tl ρ x.t.a]
def Sg (ρ:Hd) (x:Fi):List AV:=[iv x.aaq,dw ρ fc false x.ids]
def qC (ρ:Hd) (l:List At):AV:=dw ρ (atR ρ) false l
def Jh (ρ:Hd) (l:List Gl):AV:=dw ρ (Se ρ) false l
def Zg (ρ:Hd) (l:List Im):AV:=dw ρ (Sf ρ) false l
def DZ (ρ:Hd) (l:List Bd):AV:=dw ρ (pC ρ) false l
def Zh (ρ:Hd) (l:List Fi):AV:=dw ρ (Sg ρ) false l
def NK (ρ:Hd) (x:Rl):List AV:=[.v (.string x.n),qC ρ x.cD,qC ρ x.rem,Jh ρ x.guard,Jh ρ x.body,iv x.vars]
def Sh (x:Dc):List AV:=[.v (.string x.n),iv x.ar]
def Zi (ρ:Hd) (l:List Dc):AV:=dw ρ Sh false l
def Zj (ρ:Hd) (l:List Rl):AV:=dw ρ (NK ρ) false l
def Zk (ρ:Hd) (x:Pg):List AV:=[Zi ρ x.ds,Zj ρ x.rs]
def Si (ρ:Hd) (x:NJ):List AV:=[Jh ρ x.goals,Zg ρ x.store,DZ ρ x.binds,Zh ρ x.UD,Jh ρ x.known,iv x.next,iv x.fresh,.v (.bool x.failed)]
def at_ (ρ:Hd) (x:At):AV:=.agg (atR ρ x)
def gl (ρ:Hd) (x:Gl):AV:=.agg (Se ρ x)
def it (ρ:Hd) (x:Im):AV:=.agg (Sf ρ x)
def bd (ρ:Hd) (x:Bd):AV:=.agg (pC ρ x)
def fi (ρ:Hd) (x:Fi):AV:=.agg (Sg ρ x)
def rl (ρ:Hd) (x:Rl):AV:=.agg (NK ρ x)
def pg (ρ:Hd) (x:Pg):AV:=.agg (Zk ρ x)
def sta (ρ:Hd) (x:NJ):AV:=.agg (Si ρ x)
section
variable {ρ:Hd}
theorem g9 (l:List Int) {ex:Bool}:Pure (dw ρ fc ex l):=eR fun x _ a ha=>by
 obtain rfl:=List.mem_singleton.1 ha
 exact .v
theorem yH {a b:AV}(ha:Pure a) (hb:Pure b):∀ c ∈ [a,b],Pure c:=by simp [ha,hb]
theorem Sj {a b c:AV}(ha:Pure a) (hb:Pure b) (hc:Pure c):∀ d ∈ [a,b,c],Pure d:=by simp [ha,hb,hc]
theorem Bt (x:At):∀ a ∈ atR ρ x,Pure a:=yH .v (cy _)
theorem Bu (x:Gl):∀ a ∈ Se ρ x,Pure a:=Sj .v .v (cy _)
theorem Bv (x:Im):∀ a ∈ Sf ρ x,Pure a:=Sj .v .v (cy _)
theorem wi (x:Bd):∀ a ∈ pC ρ x,Pure a:=by simp [pC,cy,Pure.v,iv]
theorem Bw (x:Fi):∀ a ∈ Sg ρ x,Pure a:=yH .v (g9 _)
theorem wj (l:List At):Pure (qC ρ l):=eR fun x _ a ha=>Bt x a ha
theorem rI (l:List Gl):Pure (Jh ρ l):=eR fun x _ a ha=>Bu x a ha
theorem wo (l:List Im):Pure (Zg ρ l):=eR fun x _ a ha=>Bv x a ha
theorem oR (l:List Bd):Pure (DZ ρ l):=eR fun x _ a ha=>wi x a ha
theorem wq (l:List Fi):Pure (Zh ρ l):=eR fun x _ a ha=>Bw x a ha
theorem Bx (x:Rl):∀ a ∈ NK ρ x,Pure a:=by simp [NK,wj,rI,Pure.v,iv]
theorem K2 (x:Dc):∀ a ∈ Sh x,Pure a:=yH .v .v
theorem wu (l:List Dc):Pure (Zi ρ l):=eR fun x _ a ha=>K2 x a ha
theorem wv (l:List Rl):Pure (Zj ρ l):=eR fun x _ a ha=>Bx x a ha
theorem K3 (x:Pg):∀ a ∈ Zk ρ x,Pure a:=yH (wu _) (wv _)
theorem K4 (x:NJ):∀ a ∈ Si ρ x,Pure a:=by simp [Si,rI,wo,oR,wq,Pure.v,iv]
theorem D0 (x:At):Pure (at_ ρ x):=.agg (Bt x)
theorem D1 (x:Gl):Pure (gl ρ x):=.agg (Bu x)
theorem D2 (x:Im):Pure (it ρ x):=.agg (Bv x)
theorem D3 (x:Bd):Pure (bd ρ x):=.agg (wi x)
theorem D4 (x:Fi):Pure (fi ρ x):=.agg (Bw x)
theorem D5 (x:Rl):Pure (rl ρ x):=.agg (Bx x)
theorem D6 (x:Pg):Pure (pg ρ x):=.agg (K3 x)
theorem By (x:NJ):Pure (sta ρ x):=.agg (K4 x)
end
theorem gq {P:Program}{w0:World}{rd:Bool}{n:Nat}{Q:Exit->AA->aa->Prop}(G:List Nat) {cf oK:QF}{α ag:AA}{S S':aa}(k:ab P w0 rd n Q oK ag S') (h:wg G 400 cf α S=(oK,ag,S'):=by conv=>lhs;cbv):ab P w0 rd n Q cf α S:=ab.goG G 400 h k
section
variable {P:Program}{w0:World}{rd dr:Bool}{n:Nat}{Q:Exit->AA->aa->Prop}{α:AA}{S S':aa}{i:QI}{l:List QI}{K:List ig}
theorem fq {ex:Exit}{r:AV}{qs:List QR}{R:AV->aa->Prop}(k:R r S') (h:vX qs ex α S=some (r,S'):=by conv=>lhs;cbv):ab P w0 rd n (oM qs R) (.out ex []) α S:=ab.fin h k
theorem bq {e:Bool}(k1:e=true->ab P w0 rd n Q (.aR dr l K) (bJ i.d α (.v (.bool true))) S') (k2:e=false->ab P w0 rd n Q (.aR dr l K) (bJ i.d α (.v (.bool false))) S') (hw:bB α.tm i.g=some true:=by rfl) (h:ad P w0 dr i.q α S (.v (.bool e)) S':=by exact ad.bit rfl):ab P w0 rd n Q (.aR dr (i::l) K) α S:=ab.bif hw h k1 k2
theorem bK {ik:IntKind}{e:Int}(k:∀ d,d=e->ab P w0 rd n Q (.aR dr l K) (bJ i.d α (.v (.int ik d))) S') (hw:bB α.tm i.g=some true:=by rfl) (h:ad P w0 dr i.q α S (.v (.int ik e)) S':=by exact ad.len rfl):ab P w0 rd n Q (.aR dr (i::l) K) α S:=ab.int hw h k
theorem bH {ik:IntKind}{e:Int}(k:∀ d,d=e->ab P w0 rd n Q (.aR dr l K) (bJ i.d α (.v (.int ik d))) S') (hw:bB α.tm i.g=some true:=by rfl) (h:ad P w0 dr i.q α S (.v (.int ik e)) S':=by exact ad.xf rfl rfl rfl (by omega) (by omega)):ab P w0 rd n Q (.aR dr (i::l) K) α S:=ab.int hw h k
theorem dx {ik:IntKind}{e:Int}(k:∀ d,d=e->ab P w0 rd n Q (.aR dr l K) (bJ i.d α (.v (.int ik d))) S') (hw:bB α.tm i.g=some true:=by rfl) (h:ad P w0 dr i.q α S (.v (.int ik e)) S':=by exact ad.RP rfl (by omega) (by omega)):ab P w0 rd n Q (.aR dr (i::l) K) α S:=ab.int hw h k
end
theorem bS:(∀ (p:Prop) [Decidable p],(decide p=true)=p)/\(∀ (p:Prop) [Decidable p],(decide p=false)=¬ p)/\(∀ {α:Type} [BEq α] [LawfulBEq α] (a b:α),((a == b)=true)=(a=b))/\(∀ {α:Type} [BEq α] [LawfulBEq α] (a b:α),((a == b)=false)=¬ a=b)/\(∀ {α:Type} [BEq α] [LawfulBEq α] (a b:α),((a != b)=true)=¬ a=b)/\(∀ {α:Type} [BEq α] [LawfulBEq α] (a b:α),((a != b)=false)=(a=b)) /\
  (∀ b:Bool,(¬ b=true)=(b=false))/\(∀ b:Bool,(¬ b=false)=(b=true))/\(∀ b:Bool,((!b)=true)=(b=false))/\(∀ b:Bool,((!b)=false)=(b=true))/\(∀ {α:Type}(a b:α),(a ≠ b)=¬ a=b):=by
 refine⟨fun p _=>by simp,fun p _=>by simp,fun a b=>by simp,fun a b=>by simp,fun a b=>by simp,fun a b=>by simp,fun b=>by simp,fun b=>by simp,fun b=>by simp,fun b=>by simp,fun a b=>rfl⟩
theorem sq {P:Prop}(h:P:=by (repeat' (first|exact trivial|(refine⟨?_,?_⟩;first|exact .aJ rfl .v|exact .aJ rfl yC|exact .aJ rfl (Pure.bT (by (first|exact .v|exact cy _|exact g9 _|exact wj _|exact rI _|exact wo _|exact oR _|exact wq _|exact wu _|exact wv _|exact dN _|exact D0 _|exact D1 _|exact D2 _|exact D3 _|exact D4 _|exact D5 _|exact D6 _|exact By _|assumption)))|exact .aJ rfl .u|exact .new rfl rfl|exact .lD rfl rfl|exact .ia rfl|exact .kR rfl rfl|exact .nJ rfl rfl|exact .aJ rfl (.pt (by decide))|exact .aJ rfl (.mp (by decide))|exact .aJ rfl (.gr (by decide))|exact .aJ rfl (.ob (by decide))|exact .aJ rfl (.yl (by decide)))))):P:=h
theorem cq {P:Prop}(h:P:=by exact⟨by (repeat' (first|exact trivial|(refine⟨?_,?_⟩;first|exact .aJ rfl .v|exact .aJ rfl yC|exact .aJ rfl (Pure.bT (by (first|exact .v|exact cy _|exact g9 _|exact wj _|exact rI _|exact wo _|exact oR _|exact wq _|exact wu _|exact wv _|exact dN _|exact D0 _|exact D1 _|exact D2 _|exact D3 _|exact D4 _|exact D5 _|exact D6 _|exact By _|assumption)))|exact .aJ rfl .u|exact .new rfl rfl|exact .lD rfl rfl|exact .ia rfl|exact .kR rfl rfl|exact .nJ rfl rfl|exact .aJ rfl (.pt (by decide))|exact .aJ rfl (.mp (by decide))|exact .aJ rfl (.gr (by decide))|exact .aJ rfl (.ob (by decide))|exact .aJ rfl (.yl (by decide))))),rfl,trivial,rfl,rfl,rfl⟩):P:=h
abbrev CF (f:Func):={q:QC × List QR // AG Tryz.progTables f=some q}
theorem fh {f:FuncId}{q:QC × List QR}{fn:Func}(hf:Tryz.prog.funcs[f]?=some fn) (hq:AG Tryz.progTables fn=some q) (hc:∀ (xs:Array Value) (w:World),(callFunc f xs).run Tryz.prog w=.ok (.enter f xs) w) (hT:Tryz.prog.toTables=Tryz.progTables:=by rfl) (hd:xh Tryz.prog fn=true:=by kernel_rfl):bQ Tryz.prog f q fn.ntmps:=bQ.of hf hq hT rfl hd hc
end Go.Proofs.YtgjfgekaclobaaaGreat
