import Derived.Test.YtbpabjmnhggajaaGreatProg
import Derived.Test.YtbpabjmnhggajaaGreatOs14
namespace Go.Proofs.YtbpabjmnhggajaaGreat
set_option linter.unusedVariables false
set_option linter.unusedSimpArgs false
open Go.RowKit
structure Tm where
 k:Int
 i:Int
 n:ByteArray
 a:List Tm
mutual
def lr:Tm->List AV
 |⟨k,i,n,a⟩=>[iv k,iv i,.v (.string n),.sl false (Ez a)]
def Ez:List Tm->List (List AV)
 |[]=>[]
 |x::l=>lr x::Ez l
end
theorem EA:∀ l,Ez l=l.map lr
 |[]=>by rw[Ez];rfl
 |x::l=>by rw[Ez,EA l];rfl
mutual
theorem Tm.YB {p:Tm->Prop}{q:List Tm->Prop}(hp:∀ k i n a,q a->p ⟨k,i,n,a⟩) (h0:q []) (h1:∀ x l,p x->q l->q (x::l)):∀ t,p t
 |⟨k,i,n,a⟩=>hp k i n a (Tm.UZ hp h0 h1 a)
theorem Tm.UZ {p:Tm->Prop}{q:List Tm->Prop}(hp:∀ k i n a,q a->p ⟨k,i,n,a⟩) (h0:q []) (h1:∀ x l,p x->q l->q (x::l)):∀ l,q l
 |[]=>h0
 |x::l=>h1 x l (Tm.YB hp h0 h1 x) (Tm.UZ hp h0 h1 l)
end
theorem Tm.ind {p:Tm->Prop}(h:∀ k i n (a:List Tm),(∀ x ∈ a,p x)->p ⟨k,i,n,a⟩) (t:Tm):p t :=
 Tm.YB (q:=fun l=>∀ x ∈ l,p x) h (fun x h=>by grind) (fun x l hx hl y hy=>by grind) t
def tl (ρ:Hd) (l:List Tm):AV:=aX ρ lr false l
def iL (ρ:Hd) (x:Tm):List AV:=[iv x.k,iv x.i,.v (.string x.n),tl ρ x.a]
def tm (ρ:Hd) (x:Tm):AV:=.agg (iL ρ x)
section
variable {ρ:Hd}
theorem pv (x:Tm):lr x=iL ρ x:=by
 obtain⟨k,i,n,a⟩:=x;rw[lr,EA,iL,tl,bQ]
theorem AJ (x:Tm):(lr x).length=4:=by rw[pv (ρ:=.plain)];rfl
theorem wO (x:Tm):∀ a ∈ lr x,Pure a:=by
 refine Tm.ind (p:=fun x=>∀ a ∈ lr x,Pure a) ?_ x;intro k i n a ih b hb;rw[lr] at hb;simp only[List.mem_cons,List.not_mem_nil,or_false] at hb;rcases hb with rfl|rfl|rfl|rfl
 ·exact .v
 ·exact .v
 ·exact .v
 ·rw[EA];exact .sl fun row hr c hc=>by grind
theorem aS (l:List Tm):Pure (tl ρ l):=eR fun x _ a ha=>wO x a ha
theorem qn (x:Tm):∀ a ∈ iL ρ x,Pure a:=by rw[<-pv];exact wO x
theorem aT (x:Tm):Pure (tm ρ x):=.agg (qn x)
theorem fm {l:List Tm}{i:Int}{k:Nat}{x:Tm}(hi:i=(k:Int)) (h:l[k]?=some x):idx (ρ.h (List.map lr) l) i=some (iL ρ x):=by
 rw[aY hi h,pv]
theorem fp {l:List Tm}:∀ r ∈ ρ.h (List.map lr) l,r.length=4:=aZ fun x=>AJ x
end
structure At where
 n:ByteArray
 a:List Tm
structure Gl where
 op:Int
 n:ByteArray
 a:List Tm
structure Im where
 id:Int
 n:ByteArray
 a:List Tm
structure Bd where
 v:Int
 t:Tm
structure Fi where
 ag0:Int
 ids:List Int
structure Rl where
 n:ByteArray
 aU:List At
 rem:List At
 guard:List Gl
 body:List Gl
 vars:Int
structure Dc where
 n:ByteArray
 ar:Int
structure Pg where
 ds:List Dc
 rs:List Rl
structure O4 where
 goals:List Gl
 store:List Im
 binds:List Bd
 U0:List Fi
 known:List Gl
 next:Int
 fresh:Int
 failed:Bool
def atR (ρ:Hd) (x:At):List AV:=[.v (.string x.n),tl ρ x.a]
def nJ (ρ:Hd) (x:Gl):List AV:=[iv x.op,.v (.string x.n),tl ρ x.a]
def yR (ρ:Hd) (x:Im):List AV:=[iv x.id,.v (.string x.n),tl ρ x.a]
def uD (ρ:Hd) (x:Bd):List AV:=[iv x.v,iv x.t.k,iv x.t.i,.v (.string x.t.n),tl ρ x.t.a]
def YC (ρ:Hd) (x:Fi):List AV:=[iv x.ag0,aX ρ aP false x.ids]
def dy (ρ:Hd) (l:List At):AV:=aX ρ (atR ρ) false l
def cX (ρ:Hd) (l:List Gl):AV:=aX ρ (nJ ρ) false l
def C0 (ρ:Hd) (l:List Im):AV:=aX ρ (yR ρ) false l
def kQ (ρ:Hd) (l:List Bd):AV:=aX ρ (uD ρ) false l
def O5 (ρ:Hd) (l:List Fi):AV:=aX ρ (YC ρ) false l
def lu (ρ:Hd) (x:Rl):List AV:=[.v (.string x.n),dy ρ x.aU,dy ρ x.rem,cX ρ x.guard,cX ρ x.body,iv x.vars]
def O6 (x:Dc):List AV:=[.v (.string x.n),iv x.ar]
def gk (ρ:Hd) (l:List Dc):AV:=aX ρ O6 false l
def Fx (ρ:Hd) (l:List Rl):AV:=aX ρ (lu ρ) false l
def tg (ρ:Hd) (x:Pg):List AV:=[gk ρ x.ds,Fx ρ x.rs]
def YD (ρ:Hd) (x:O4):List AV:=[cX ρ x.goals,C0 ρ x.store,kQ ρ x.binds,O5 ρ x.U0,cX ρ x.known,iv x.next,iv x.fresh,.v (.bool x.failed)]
def at_ (ρ:Hd) (x:At):AV:=.agg (atR ρ x)
def gl (ρ:Hd) (x:Gl):AV:=.agg (nJ ρ x)
def it (ρ:Hd) (x:Im):AV:=.agg (yR ρ x)
def bd (ρ:Hd) (x:Bd):AV:=.agg (uD ρ x)
def fi (ρ:Hd) (x:Fi):AV:=.agg (YC ρ x)
def rl (ρ:Hd) (x:Rl):AV:=.agg (lu ρ x)
def pg (ρ:Hd) (x:Pg):AV:=.agg (tg ρ x)
def sta (ρ:Hd) (x:O4):AV:=.agg (YD ρ x)
section
variable {ρ:Hd}
theorem bp (l:List Int) {ex:Bool}:Pure (aX ρ aP ex l):=eR fun x _ a ha=>by
 obtain rfl:=List.mem_singleton.1 ha;exact .v
theorem wP {a b:AV}(ha:Pure a) (hb:Pure b):∀ c ∈ [a,b],Pure c:=by grind
theorem EB {a b c:AV}(ha:Pure a) (hb:Pure b) (hc:Pure c):∀ d ∈ [a,b,c],Pure d:=by grind
theorem wQ (x:At):∀ a ∈ atR ρ x,Pure a:=wP .v (aS _)
theorem jC (x:Gl):∀ a ∈ nJ ρ x,Pure a:=EB .v .v (aS _)
theorem lV (x:Im):∀ a ∈ yR ρ x,Pure a:=EB .v .v (aS _)
theorem B8 (x:Bd):∀ a ∈ uD ρ x,Pure a:=by simp[uD,aS,Pure.v,iv]
theorem HP (x:Fi):∀ a ∈ YC ρ x,Pure a:=wP .v (bp _)
theorem b_ (l:List At):Pure (dy ρ l):=eR fun x _ a ha=>wQ x a ha
theorem cL (l:List Gl):Pure (cX ρ l):=eR fun x _ a ha=>jC x a ha
theorem qp (l:List Im):Pure (C0 ρ l):=eR fun x _ a ha=>lV x a ha
theorem cJ (l:List Bd):Pure (kQ ρ l):=eR fun x _ a ha=>B8 x a ha
theorem th (l:List Fi):Pure (O5 ρ l):=eR fun x _ a ha=>HP x a ha
theorem wR (x:Rl):∀ a ∈ lu ρ x,Pure a:=by simp[lu,b_,cL,Pure.v,iv]
theorem HQ (x:Dc):∀ a ∈ O6 x,Pure a:=wP .v .v
theorem dU (l:List Dc):Pure (gk ρ l):=eR fun x _ a ha=>HQ x a ha
theorem qq (l:List Rl):Pure (Fx ρ l):=eR fun x _ a ha=>wR x a ha
theorem wS (x:Pg):∀ a ∈ tg ρ x,Pure a:=wP (dU _) (qq _)
theorem R5 (x:O4):∀ a ∈ YD ρ x,Pure a:=by simp[YD,cL,qp,cJ,th,Pure.v,iv]
theorem gF (x:At):Pure (at_ ρ x):=.agg (wQ x)
theorem gV (x:Gl):Pure (gl ρ x):=.agg (jC x)
theorem EC (x:Im):Pure (it ρ x):=.agg (lV x)
theorem AK (x:Bd):Pure (bd ρ x):=.agg (B8 x)
theorem ED (x:Fi):Pure (fi ρ x):=.agg (HP x)
theorem nA (x:Rl):Pure (rl ρ x):=.agg (wR x)
theorem sU (x:Pg):Pure (pg ρ x):=.agg (wS x)
theorem B9 (x:O4):Pure (sta ρ x):=.agg (R5 x)
end
theorem gq {P:Program}{w0:World}{rd:Bool}{n:Nat}{Q:Exit->AA->ae->Prop}(G:List Nat) {cf s9:QF}{α au:AA}{S S':ae}(k:ad P w0 rd n Q s9 au S') (h:nU G 400 cf α S=(s9,au,S'):=by conv=>lhs;cbv):ad P w0 rd n Q cf α S:=ad.yQ G 400 h k
section
variable {P:Program}{w0:World}{rd dr:Bool}{n:Nat}{Q:Exit->AA->ae->Prop}{α:AA}{S S':ae}{i:QI}{l:List QI}{K:List ff}
theorem fq {ex:Exit}{r:AV}{qs:List QR}{R:AV->ae->Prop}(k:R r S') (h:yw qs ex α S=some (r,S'):=by conv=>lhs;cbv):ad P w0 rd n (nS qs R) (.out ex []) α S:=ad.fin h k
theorem bq {e:Bool}(k1:e=true->ad P w0 rd n Q (.aN dr l K) (bC i.d α (.v (.bool true))) S') (k2:e=false->ad P w0 rd n Q (.aN dr l K) (bC i.d α (.v (.bool false))) S') (hw:bm α.tm i.g=some true:=by rfl) (h:af P w0 dr i.q α S (.v (.bool e)) S':=by exact af.bit rfl):ad P w0 rd n Q (.aN dr (i::l) K) α S:=ad.bif hw h k1 k2
theorem cF {ik:IntKind}{e:Int}(k:∀ d,d=e->ad P w0 rd n Q (.aN dr l K) (bC i.d α (.v (.int ik d))) S') (hw:bm α.tm i.g=some true:=by rfl) (h:af P w0 dr i.q α S (.v (.int ik e)) S':=by exact af.len rfl):ad P w0 rd n Q (.aN dr (i::l) K) α S:=ad.int hw h k
theorem cz {ik:IntKind}{e:Int}(k:∀ d,d=e->ad P w0 rd n Q (.aN dr l K) (bC i.d α (.v (.int ik d))) S') (hw:bm α.tm i.g=some true:=by rfl) (h:af P w0 dr i.q α S (.v (.int ik e)) S':=by exact af.wJ rfl rfl rfl (by omega) (by omega)):ad P w0 rd n Q (.aN dr (i::l) K) α S:=ad.int hw h k
theorem mg {ik:IntKind}{e:Int}(k:∀ d,d=e->ad P w0 rd n Q (.aN dr l K) (bC i.d α (.v (.int ik d))) S') (hw:bm α.tm i.g=some true:=by rfl) (h:af P w0 dr i.q α S (.v (.int ik e)) S':=by exact af.X7 rfl (by omega) (by omega)):ad P w0 rd n Q (.aN dr (i::l) K) α S:=ad.int hw h k
end
theorem bX:(∀ (p:Prop) [Decidable p],(decide p=true)=p)/\(∀ (p:Prop) [Decidable p],(decide p=false)=¬ p)/\(∀ {α:Type} [BEq α] [LawfulBEq α] (a b:α),((a == b)=true)=(a=b))/\(∀ {α:Type} [BEq α] [LawfulBEq α] (a b:α),((a == b)=false)=¬ a=b)/\(∀ {α:Type} [BEq α] [LawfulBEq α] (a b:α),((a != b)=true)=¬ a=b)/\(∀ {α:Type} [BEq α] [LawfulBEq α] (a b:α),((a != b)=false)=(a=b)) /\
  (∀ b:Bool,(¬ b=true)=(b=false))/\(∀ b:Bool,(¬ b=false)=(b=true))/\(∀ b:Bool,((!b)=true)=(b=false))/\(∀ b:Bool,((!b)=false)=(b=true))/\(∀ {α:Type}(a b:α),(a ≠ b)=¬ a=b):=by
 refine⟨fun p _=>by simp,fun p _=>by simp,fun a b=>by simp,fun a b=>by simp,fun a b=>by simp,fun a b=>by simp,fun b=>by simp,fun b=>by simp,fun b=>by simp,fun b=>by simp,fun a b=>rfl⟩
theorem sq {P:Prop}(h:P:=by (repeat' (first|exact trivial|(refine⟨?_,?_⟩;first|exact .ao rfl .v|exact .ao rfl AF|exact .ao rfl (Pure.aV (by (first|exact .v|exact aS _|exact bp _|exact b_ _|exact cL _|exact qp _|exact cJ _|exact th _|exact dU _|exact qq _|exact aT _|exact gF _|exact gV _|exact EC _|exact AK _|exact ED _|exact nA _|exact sU _|exact B9 _|assumption)))|exact .ao rfl .u|exact .new rfl rfl|exact .iR rfl rfl|exact .jw rfl|exact .mS rfl rfl|exact .qm rfl rfl|exact .ao rfl (.pt (by decide))|exact .ao rfl (.mp (by decide))|exact .ao rfl (.gr (by decide))|exact .ao rfl (.ob (by decide))|exact .ao rfl (.yl (by decide)))))):P:=h
theorem kq {P:Prop}(h:P:=by (repeat' (first|exact trivial|(refine⟨?_,?_⟩;first|exact .ao .v|exact .ao AF|exact .ao (Pure.aV (by (first|exact .v|exact aS _|exact bp _|exact b_ _|exact cL _|exact qp _|exact cJ _|exact th _|exact dU _|exact qq _|exact aT _|exact gF _|exact gV _|exact EC _|exact AK _|exact ED _|exact nA _|exact sU _|exact B9 _|assumption)))|exact .iR rfl rfl|exact .jw|exact .ao (.pt (by decide))|exact .ao (.mp (by decide))|exact .ao (.gr (by decide))|exact .mS rfl rfl|exact .qm rfl rfl|exact .ao .u)))):P:=h
theorem cq {P:Prop}(h:P:=by exact⟨by (repeat' (first|exact trivial|(refine⟨?_,?_⟩;first|exact .ao rfl .v|exact .ao rfl AF|exact .ao rfl (Pure.aV (by (first|exact .v|exact aS _|exact bp _|exact b_ _|exact cL _|exact qp _|exact cJ _|exact th _|exact dU _|exact qq _|exact aT _|exact gF _|exact gV _|exact EC _|exact AK _|exact ED _|exact nA _|exact sU _|exact B9 _|assumption)))|exact .ao rfl .u|exact .new rfl rfl|exact .iR rfl rfl|exact .jw rfl|exact .mS rfl rfl|exact .qm rfl rfl|exact .ao rfl (.pt (by decide))|exact .ao rfl (.mp (by decide))|exact .ao rfl (.gr (by decide))|exact .ao rfl (.ob (by decide))|exact .ao rfl (.yl (by decide))))),rfl,trivial,rfl,rfl,rfl⟩):P:=h
abbrev FQ (n:FuncId) (f:Func):={q:QC × List QR // mK Tryz.prog n q f.ntmps}
abbrev a_ {n:FuncId}{f:Func}{q:QC × List QR}(hf:Tryz.prog.funcs[n]?=some f) (hc:∀ (xs:Array Value) (w:World),(callFunc n xs).run Tryz.prog w=.ok (.enter n xs) w) (hq:ME Tryz.progTables f=some q:=by conv=>lhs;cbv) (hT:Tryz.prog.toTables=Tryz.progTables:=by rfl) (hd:AD Tryz.prog f=true:=by kernel_rfl):FQ n f:=⟨q,mK.of hf hq hT rfl hd hc⟩
theorem st {w0:World}{n:FuncId}{f:Func}{args:List AV}{r:AV}{cf:QF}{α:AA}{S:ae}(x:FQ n f) (G:List Nat) (hp:Pure r) (k:ad Tryz.prog w0 false f.ntmps (nS x.1.2 fun r' S=>aR S r' r) cf α S) (ha:args.length<=f.ntmps:=by exact Nat.le_of_ble_eq_true rfl) (g:nU G 400 (.run x.1.1 []) ⟨kG args,[]⟩ ae.none_=(cf,α,S):=by conv=>lhs;cbv):ah Tryz.prog w0 n args r:=x.2.Ep ha hp (ad.yQ G 400 g k)
theorem sc {w0:World}{n:FuncId}{f:Func}{args:List AV}{r':AV}{S:ae}{so:List (Nat × Ob)}(B N:Nat) (x:FQ n f) (k:ad Tryz.prog w0 false f.ntmps (nS x.1.2 fun r S'=>∃ m,ij B m N r r'/\fY B m N S' so/\nu B m (so.map (·.1))=true) (.run x.1.1 []) ⟨kG args,[]⟩ S) (ha:args.length<=f.ntmps:=by exact Nat.le_of_ble_eq_true rfl) (hn:Nat.ble S.nx B=true:=by rfl) (hb:Nat.ble B N=true:=by rfl):aC Tryz.prog w0 n args S r' (aq so N):=mK.agZ B N so x.2 ha hn hb k
end Go.Proofs.YtbpabjmnhggajaaGreat
