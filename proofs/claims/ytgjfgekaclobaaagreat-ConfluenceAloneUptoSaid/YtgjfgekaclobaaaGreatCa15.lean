import Derived.Test.YtgjfgekaclobaaaGreatProg
import Derived.Test.YtgjfgekaclobaaaGreatCa14
namespace Go.Proofs.YtgjfgekaclobaaaGreat
set_option linter.unusedVariables false
set_option linter.unusedSimpArgs false
open Go.RowKit
structure Tm where
 k:Int
 i:Int
 n:ByteArray
 a:List Tm
mutual
def ov:Tm->List AV
 |⟨k,i,n,a⟩=>[iv k,iv i,.v (.string n),.sl false (Cx a)]
def Cx:List Tm->List (List AV)
 |[]=>[]
 |x::l=>ov x::Cx l
end
theorem Cy:∀ l,Cx l=l.map ov
 |[]=>by rw [Cx];rfl
 |x::l=>by rw [Cx,Cy l];rfl
mutual
theorem Tm.Zv {p:Tm->Prop}{q:List Tm->Prop}(hp:∀ k i n a,q a->p ⟨k,i,n,a⟩) (h0:q []) (h1:∀ x l,p x->q l->q (x::l)):∀ t,p t
 |⟨k,i,n,a⟩=>hp k i n a (Tm.TU hp h0 h1 a)
theorem Tm.TU {p:Tm->Prop}{q:List Tm->Prop}(hp:∀ k i n a,q a->p ⟨k,i,n,a⟩) (h0:q []) (h1:∀ x l,p x->q l->q (x::l)):∀ l,q l
 |[]=>h0
 |x::l=>h1 x l (Tm.Zv hp h0 h1 x) (Tm.TU hp h0 h1 l)
end
theorem Tm.ind {p:Tm->Prop}(h:∀ k i n (a:List Tm),(∀ x ∈ a,p x)->p ⟨k,i,n,a⟩) (t:Tm):p t :=
 Tm.Zv (q:=fun l=>∀ x ∈ l,p x) h (fun x h=>by cases h) (fun x l hx hl y hy=>by rcases List.mem_cons.1 hy with rfl|hy;exact hx;exact hl y hy) t
def tl (ρ:Hd) (l:List Tm):AV:=cE ρ ov false l
def lh (ρ:Hd) (x:Tm):List AV:=[iv x.k,iv x.i,.v (.string x.n),tl ρ x.a]
def tm (ρ:Hd) (x:Tm):AV:=.agg (lh ρ x)
section
variable {ρ:Hd}
theorem sP (x:Tm):ov x=lh ρ x:=by
 obtain⟨k,i,n,a⟩:=x
 rw [ov,Cy,lh,tl,cO]
theorem IC (x:Tm):(ov x).length=4:=by rw [sP (ρ:=.plain)];rfl
theorem Ae (x:Tm):∀ a ∈ ov x,Pure a:=by
 refine Tm.ind (p:=fun x=>∀ a ∈ ov x,Pure a) ?_ x
 intro k i n a ih b hb
 rw [ov] at hb
 simp only [List.mem_cons,List.not_mem_nil,or_false] at hb
 rcases hb with rfl|rfl|rfl|rfl
 ·exact .v
 ·exact .v
 ·exact .v
 ·rw [Cy]
  exact .sl fun row hr c hc=>by
   obtain⟨x,hx,rfl⟩:=List.mem_map.1 hr
   exact ih x hx c hc
theorem bl (l:List Tm):Pure (tl ρ l):=fg fun x _ a ha=>Ae x a ha
theorem pb (x:Tm):∀ a ∈ lh ρ x,Pure a:=by rw [<-sP];exact Ae x
theorem cK (x:Tm):Pure (tm ρ x):=.agg (pb x)
theorem lj {l:List Tm}{i:Int}{k:Nat}{x:Tm}(hi:i=(k:Int)) (h:l[k]?=some x):idx (ρ.h (List.map ov) l) i=some (lh ρ x):=by
 rw [bU hi h,sP]
theorem ll {l:List Tm}:∀ r ∈ ρ.h (List.map ov) l,r.length=4:=bV fun x=>IC x
end
structure At where
 n:ByteArray
 a:List Tm
structure Gl where
 op:Int
 n:ByteArray
 a:List Tm
structure Im where
 id:Int
 n:ByteArray
 a:List Tm
structure Bd where
 v:Int
 t:Tm
structure Fi where
 ajM:Int
 ids:List Int
structure Rl where
 n:ByteArray
 a7:List At
 rem:List At
 guard:List Gl
 body:List Gl
 vars:Int
structure Dc where
 n:ByteArray
 ar:Int
structure Pg where
 ds:List Dc
 rs:List Rl
structure TV where
 goals:List Gl
 store:List Im
 binds:List Bd
 ac3:List Fi
 known:List Gl
 next:Int
 fresh:Int
 failed:Bool
def atR (ρ:Hd) (x:At):List AV:=[.v (.string x.n),tl ρ x.a]
def sQ (ρ:Hd) (x:Gl):List AV:=[iv x.op,.v (.string x.n),tl ρ x.a]
def Zw (ρ:Hd) (x:Im):List AV:=[iv x.id,.v (.string x.n),tl ρ x.a]
def sR (ρ:Hd) (x:Bd):List AV:=[iv x.v,iv x.t.k,iv x.t.i,.v (.string x.t.n),tl ρ x.t.a]
def Zx (ρ:Hd) (x:Fi):List AV:=[iv x.ajM,cE ρ cM false x.ids]
def dh (ρ:Hd) (l:List At):AV:=cE ρ (atR ρ) false l
def eP (ρ:Hd) (l:List Gl):AV:=cE ρ (sQ ρ) false l
def Zy (ρ:Hd) (l:List Im):AV:=cE ρ (Zw ρ) false l
def ID (ρ:Hd) (l:List Bd):AV:=cE ρ (sR ρ) false l
def fis (ρ:Hd) (l:List Fi):AV:=cE ρ (Zx ρ) false l
def ln (ρ:Hd) (x:Rl):List AV:=[.v (.string x.n),dh ρ x.a7,dh ρ x.rem,eP ρ x.guard,eP ρ x.body,iv x.vars]
def Og (x:Dc):List AV:=[.v (.string x.n),iv x.ar]
def gI (ρ:Hd) (l:List Dc):AV:=cE ρ Og false l
def TW (ρ:Hd) (l:List Rl):AV:=cE ρ (ln ρ) false l
def mR (ρ:Hd) (x:Pg):List AV:=[gI ρ x.ds,TW ρ x.rs]
def Zz (ρ:Hd) (x:TV):List AV:=[eP ρ x.goals,Zy ρ x.store,ID ρ x.binds,fis ρ x.ac3,eP ρ x.known,iv x.next,iv x.fresh,.v (.bool x.failed)]
def at_ (ρ:Hd) (x:At):AV:=.agg (atR ρ x)
def gl (ρ:Hd) (x:Gl):AV:=.agg (sQ ρ x)
def it (ρ:Hd) (x:Im):AV:=.agg (Zw ρ x)
def bd (ρ:Hd) (x:Bd):AV:=.agg (sR ρ x)
def fi (ρ:Hd) (x:Fi):AV:=.agg (Zx ρ x)
def rl (ρ:Hd) (x:Rl):AV:=.agg (ln ρ x)
def pg (ρ:Hd) (x:Pg):AV:=.agg (mR ρ x)
def sta (ρ:Hd) (x:TV):AV:=.agg (Zz ρ x)
section
variable {ρ:Hd}
theorem gy (l:List Int) {ex:Bool}:Pure (cE ρ cM ex l):=fg fun x _ a ha=>by
 obtain rfl:=List.mem_singleton.1 ha
 exact .v
theorem tA {a b:AV}(ha:Pure a) (hb:Pure b):∀ c ∈ [a,b],Pure c:=by simp [ha,hb]
theorem ZA {a b c:AV}(ha:Pure a) (hb:Pure b) (hc:Pure c):∀ d ∈ [a,b,c],Pure d:=by simp [ha,hb,hc]
theorem u0 (x:At):∀ a ∈ atR ρ x,Pure a:=tA .v (bl _)
theorem u5 (x:Gl):∀ a ∈ sQ ρ x,Pure a:=ZA .v .v (bl _)
theorem Fz (x:Im):∀ a ∈ Zw ρ x,Pure a:=ZA .v .v (bl _)
theorem Af (x:Bd):∀ a ∈ sR ρ x,Pure a:=by simp [sR,bl,Pure.v,iv]
theorem FA (x:Fi):∀ a ∈ Zx ρ x,Pure a:=tA .v (gy _)
theorem dy (l:List At):Pure (dh ρ l):=fg fun x _ a ha=>u0 x a ha
theorem dz (l:List Gl):Pure (eP ρ l):=fg fun x _ a ha=>u5 x a ha
theorem u6 (l:List Im):Pure (Zy ρ l):=fg fun x _ a ha=>Fz x a ha
theorem pc (l:List Bd):Pure (ID ρ l):=fg fun x _ a ha=>Af x a ha
theorem u7 (l:List Fi):Pure (fis ρ l):=fg fun x _ a ha=>FA x a ha
theorem u_ (x:Rl):∀ a ∈ ln ρ x,Pure a:=by simp [ln,dy,dz,Pure.v,iv]
theorem FB (x:Dc):∀ a ∈ Og x,Pure a:=tA .v .v
theorem dK (l:List Dc):Pure (gI ρ l):=fg fun x _ a ha=>FB x a ha
theorem rL (l:List Rl):Pure (TW ρ l):=fg fun x _ a ha=>u_ x a ha
theorem pd (x:Pg):∀ a ∈ mR ρ x,Pure a:=tA (dK _) (rL _)
theorem QE (x:TV):∀ a ∈ Zz ρ x,Pure a:=by simp [Zz,dz,u6,pc,u7,Pure.v,iv]
theorem mI (x:At):Pure (at_ ρ x):=.agg (u0 x)
theorem q9 (x:Gl):Pure (gl ρ x):=.agg (u5 x)
theorem Cz (x:Im):Pure (it ρ x):=.agg (Fz x)
theorem CA (x:Bd):Pure (bd ρ x):=.agg (Af x)
theorem CB (x:Fi):Pure (fi ρ x):=.agg (FA x)
theorem nW (x:Rl):Pure (rl ρ x):=.agg (u_ x)
theorem lD (x:Pg):Pure (pg ρ x):=.agg (pd x)
theorem Ag (x:TV):Pure (sta ρ x):=.agg (QE x)
end
theorem gq {P:Program}{w0:World}{rd:Bool}{n:Nat}{Q:Exit->AA->ad->Prop}(G:List Nat) {cf rF:QF}{α aw:AA}{S S':ad}(k:aa P w0 rd n Q rF aw S') (h:Ad G 400 cf α S=(rF,aw,S'):=by conv=>lhs;cbv):aa P w0 rd n Q cf α S:=aa.goG G 400 h k
section
variable {P:Program}{w0:World}{rd dr:Bool}{n:Nat}{Q:Exit->AA->ad->Prop}{α:AA}{S S':ad}{i:QI}{l:List QI}{K:List fc}
theorem fq {ex:Exit}{r:AV}{qs:List QR}{R:AV->ad->Prop}(k:R r S') (h:uV qs ex α S=some (r,S'):=by conv=>lhs;cbv):aa P w0 rd n (og qs R) (.out ex []) α S:=aa.fin h k
theorem bq {e:Bool}(k1:e=true->aa P w0 rd n Q (.aU dr l K) (bS i.d α (.v (.bool true))) S') (k2:e=false->aa P w0 rd n Q (.aU dr l K) (bS i.d α (.v (.bool false))) S') (hw:bD α.tm i.g=some true:=by rfl) (h:ae P w0 dr i.q α S (.v (.bool e)) S':=by exact ae.bit rfl):aa P w0 rd n Q (.aU dr (i::l) K) α S:=aa.bif hw h k1 k2
theorem bL {ik:IntKind}{e:Int}(k:∀ d,d=e->aa P w0 rd n Q (.aU dr l K) (bS i.d α (.v (.int ik d))) S') (hw:bD α.tm i.g=some true:=by rfl) (h:ae P w0 dr i.q α S (.v (.int ik e)) S':=by exact ae.len rfl):aa P w0 rd n Q (.aU dr (i::l) K) α S:=aa.int hw h k
theorem cr {ik:IntKind}{e:Int}(k:∀ d,d=e->aa P w0 rd n Q (.aU dr l K) (bS i.d α (.v (.int ik d))) S') (hw:bD α.tm i.g=some true:=by rfl) (h:ae P w0 dr i.q α S (.v (.int ik e)) S':=by exact ae.AY rfl rfl rfl (by omega) (by omega)):aa P w0 rd n Q (.aU dr (i::l) K) α S:=aa.int hw h k
end
theorem aM:(∀ (p:Prop) [Decidable p],(decide p=true)=p)/\(∀ (p:Prop) [Decidable p],(decide p=false)=¬ p)/\(∀ {α:Type} [BEq α] [LawfulBEq α] (a b:α),((a == b)=true)=(a=b))/\(∀ {α:Type} [BEq α] [LawfulBEq α] (a b:α),((a == b)=false)=¬ a=b)/\(∀ {α:Type} [BEq α] [LawfulBEq α] (a b:α),((a != b)=true)=¬ a=b)/\(∀ {α:Type} [BEq α] [LawfulBEq α] (a b:α),((a != b)=false)=(a=b)) /\
  (∀ b:Bool,(¬ b=true)=(b=false))/\(∀ b:Bool,(¬ b=false)=(b=true))/\(∀ b:Bool,((!b)=true)=(b=false))/\(∀ b:Bool,((!b)=false)=(b=true))/\(∀ {α:Type}(a b:α),(a ≠ b)=¬ a=b):=by
 refine⟨fun p _=>by simp,fun p _=>by simp,fun a b=>by simp,fun a b=>by simp,fun a b=>by simp,fun a b=>by simp,fun b=>by simp,fun b=>by simp,fun b=>by simp,fun b=>by simp,fun a b=>rfl⟩
theorem sq {P:Prop}(h:P:=by (repeat' (first|exact trivial|(refine⟨?_,?_⟩;first|exact .aB rfl .v|exact .aB rfl jB|exact .aB rfl (Pure.b9 (by (first|exact .v|exact bl _|exact gy _|exact dy _|exact dz _|exact u6 _|exact pc _|exact u7 _|exact dK _|exact rL _|exact cK _|exact mI _|exact q9 _|exact Cz _|exact CA _|exact CB _|exact nW _|exact lD _|exact Ag _|assumption)))|exact .aB rfl .u|exact .new rfl rfl|exact .jc rfl rfl|exact .ja rfl|exact .l5 rfl rfl|exact .o7 rfl rfl|exact .aB rfl (.pt (by decide))|exact .aB rfl (.mp (by decide))|exact .aB rfl (.gr (by decide))|exact .aB rfl (.ob (by decide))|exact .aB rfl (.yl (by decide)))))):P:=h
theorem kq {P:Prop}(h:P:=by (repeat' (first|exact trivial|(refine⟨?_,?_⟩;first|exact .aB .v|exact .aB jB|exact .aB (Pure.b9 (by (first|exact .v|exact bl _|exact gy _|exact dy _|exact dz _|exact u6 _|exact pc _|exact u7 _|exact dK _|exact rL _|exact cK _|exact mI _|exact q9 _|exact Cz _|exact CA _|exact CB _|exact nW _|exact lD _|exact Ag _|assumption)))|exact .jc rfl rfl|exact .ja|exact .aB (.pt (by decide))|exact .aB (.mp (by decide))|exact .aB (.gr (by decide))|exact .l5 rfl rfl|exact .o7 rfl rfl|exact .aB .u)))):P:=h
theorem cq {P:Prop}(h:P:=by exact⟨by (repeat' (first|exact trivial|(refine⟨?_,?_⟩;first|exact .aB rfl .v|exact .aB rfl jB|exact .aB rfl (Pure.b9 (by (first|exact .v|exact bl _|exact gy _|exact dy _|exact dz _|exact u6 _|exact pc _|exact u7 _|exact dK _|exact rL _|exact cK _|exact mI _|exact q9 _|exact Cz _|exact CA _|exact CB _|exact nW _|exact lD _|exact Ag _|assumption)))|exact .aB rfl .u|exact .new rfl rfl|exact .jc rfl rfl|exact .ja rfl|exact .l5 rfl rfl|exact .o7 rfl rfl|exact .aB rfl (.pt (by decide))|exact .aB rfl (.mp (by decide))|exact .aB rfl (.gr (by decide))|exact .aB rfl (.ob (by decide))|exact .aB rfl (.yl (by decide))))),rfl,trivial,rfl,rfl,rfl⟩):P:=h
abbrev CF (f:Func):={q:QC × List QR // ES Tryz.progTables f=some q}
theorem bX {f:FuncId}{q:QC × List QR}{fn:Func}(hf:Tryz.prog.funcs[f]?=some fn) (hq:ES Tryz.progTables fn=some q) (hc:∀ (xs:Array Value) (w:World),(callFunc f xs).run Tryz.prog w=.ok (.enter f xs) w) (hT:Tryz.prog.toTables=Tryz.progTables:=by rfl) (hd:A1 Tryz.prog fn=true:=by kernel_rfl):aT Tryz.prog f q fn.ntmps:=aT.of hf hq hT rfl hd hc
end Go.Proofs.YtgjfgekaclobaaaGreat
