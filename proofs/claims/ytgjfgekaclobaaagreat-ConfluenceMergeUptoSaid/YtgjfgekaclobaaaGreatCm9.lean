import Derived.Orders
import Derived.Test.YtgjfgekaclobaaaGreatCm8
namespace Go.Proofs.YtgjfgekaclobaaaGreat
set_option linter.unusedVariables false
set_option linter.unusedSimpArgs false
open Go.RowKit
section
variable {P:Program}{w0:World}{n:Nat}{o:Oper}{α β:AA}{S S':aa}{r:AV}
theorem nS {γ δ:Type}{l:Array γ}{f g:γ->δ}(h:∀ x ∈ l,f x=g x):l.toList.map f=l.toList.map g:=List.map_congr_left fun x hx=>h x (by simpa using hx)
theorem IV {op:Op}{K:AV->aa->Prop}(h:∀ x ∈ op.operands,α.ev x=β.ev x) (H:aK P w0 op α S K):aK P w0 op β S K:=by
 cases op with
 |move x=>simp only [aK,aL] at H ⊢;rw [<-h x (by simp [Op.operands])];exact H
 |assign x=>simp only [aK,aL] at H ⊢;rw [<-h x (by simp [Op.operands])];exact H
 |pick c a b=>simp only [aK,aL] at H ⊢;rw [<-h c (by simp [Op.operands]),<-h a (by simp [Op.operands]),<-h b (by simp [Op.operands])];exact H
 |alloc e=>exact H
 |box e x=>simp only [aK,aL] at H ⊢;rw [<-h x (by simp [Op.operands])];exact H
 |build t parts =>
  simp only [aK,aL] at H ⊢
  have e:(parts.toList.map fun (i,x)=>(i,α.ev x))=parts.toList.map fun (i,x)=>(i,β.ev x):=List.map_congr_left fun p hp=>by
   have:=h p.2 (by simp only [Op.operands,List.mem_toArray,List.mem_map];exact⟨p,hp,rfl⟩)
   show (p.1,α.ev p.2)=(p.1,β.ev p.2)
   rw [this]
  rw [<-e]
  exact H
 |buildSlice t len parts =>
  simp only [aK,aL] at H ⊢
  have e:(parts.toList.map fun (i,x)=>(i,α.ev x))=parts.toList.map fun (i,x)=>(i,β.ev x):=List.map_congr_left fun p hp=>by
   have:=h p.2 (by simp only [Op.operands,List.mem_toArray,List.mem_map];exact⟨p,hp,rfl⟩)
   show (p.1,α.ev p.2)=(p.1,β.ev p.2)
   rw [this]
  rw [<-e]
  exact H
 |load t x=>simp only [aK,aL] at H ⊢;rw [<-h x (by simp [Op.operands])];exact H
 |store t x b=>simp only [aK,aL] at H ⊢;rw [<-h x (by simp [Op.operands]),<-h b (by simp [Op.operands])];exact H
 |binOp op t x y ty=>simp only [aK,aL] at H ⊢;rw [<-h x (by simp [Op.operands]),<-h y (by simp [Op.operands])];exact H
 |unOp op t x=>simp only [aK,aL] at H ⊢;rw [<-h x (by simp [Op.operands])];exact H
 |convert src dst x=>simp only [aK,aL] at H ⊢;rw [<-h x (by simp [Op.operands])];exact H
 |fieldAddr s x f=>simp only [aK,aL] at H ⊢;rw [<-h x (by simp [Op.operands])];exact H
 |field t x f=>simp only [aK,aL] at H ⊢;rw [<-h x (by simp [Op.operands])];exact H
 |indexAddr t x i=>simp only [aK,aL] at H ⊢;rw [<-h x (by simp [Op.operands]),<-h i (by simp [Op.operands])];exact H
 |index t x i=>simp only [aK,aL] at H ⊢;rw [<-h x (by simp [Op.operands]),<-h i (by simp [Op.operands])];exact H
 |slice t x lo hi mx =>
  simp only [aK,aL] at H ⊢
  have e:∀ z:Option Operand,(∀ y ∈ z,y ∈ (Op.slice t x lo hi mx).operands)->z.map α.ev=z.map β.ev:=by
   intro z hz
   cases z with
   |none=>rfl
   |some y=>simp only [Option.map_some];rw [h y (hz y rfl)]
  rw [<-h x (by simp [Op.operands]),<-e lo (fun y hy=>by simp [Op.operands];simp at hy;simp [hy]),<-e hi (fun y hy=>by simp [Op.operands];simp at hy;simp [hy]),<-e mx (fun y hy=>by simp [Op.operands];simp at hy;simp [hy])]
  exact H
 |extract x i=>simp only [aK,aL] at H ⊢;rw [<-h x (by simp [Op.operands])];exact H
 |makeFunc f first cap =>
  simp only [aK,aL] at H ⊢
  rw [<-nS (l:=first) fun x hx=>h x (by simp [Op.operands,hx]),<-nS (l:=cap) fun x hx=>h x (by simp [Op.operands,hx])]
  exact H
 |nilCheck x=>simp only [aK,aL] at H ⊢;rw [<-h x (by simp [Op.operands])];exact H
 |makeSlice t l c=>simp only [aK,aL] at H ⊢;rw [<-h l (by simp [Op.operands]),<-h c (by simp [Op.operands])];exact H
 |range t x=>simp only [aK,aL] at H ⊢;rw [<-h x (by simp [Op.operands])];exact H
 |next x b=>simp only [aK,aL] at H ⊢;rw [<-h x (by simp [Op.operands])];exact H
 |call c =>
  have e:c.args.toList.map α.ev=c.args.toList.map β.ev:=nS fun x hx=>h x (by simp [Op.operands,Call.operands,hx])
  simp only [aK,aL] at H ⊢
  split at H
  ·rename_i f hc
   rw [<-e,<-h f (by simp [Op.operands,Call.operands,hc])]
   exact H
  ·rw [<-e]
   exact H
  ·exact H.elim
 |_=>exact H.elim
def kE:Op->Bool
 |.move _|.assign _|.pick ..|.build ..|.buildSlice ..|.binOp ..|.unOp ..|.convert ..|.fieldAddr ..|.field ..|.indexAddr ..|.index ..|.slice ..|.extract ..|.makeFunc ..|.nilCheck _=>true
 |.call c=>match c.callee with|.builtin .len|.builtin .min|.builtin .max=>true|_=>false
 |_=>false
def sJ:Op->Bool
 |.load ..=>false
 |.call c=>match c.callee with|.value _=>false|.builtin .len|.builtin .min|.builtin .max=>false|_=>true
 |o=>!kE o
theorem Uc {t:Bool}{X Y:Prop}(h:br t X Y):(t=true/\X)\/(t=false/\Y):=by cases t;exact .inr ⟨rfl,h⟩;exact .inl ⟨rfl,h⟩
def nT (r:AV) (S:aa) (r':AV) (S':aa):Prop:=r'=r/\S'=S
theorem Nm {op:Op}{K:AV->aa->Prop}(hp:kE op=true) (h:aK P w0 op α S K):∃ r,K r S/\∀ S',aK P w0 op α S' (nT r S'):=by
 cases op with
 |move x=>exact⟨_,h,fun S'=>⟨rfl,rfl⟩⟩
 |assign x=>exact⟨_,h,fun S'=>⟨rfl,rfl⟩⟩
 |pick c a b =>
  simp only [aK,aL] at h ⊢
  split at h
  ·rcases Uc h with ⟨rfl,h⟩|⟨rfl,h⟩
   ·exact⟨_,h,fun S'=>⟨rfl,rfl⟩⟩
   ·exact⟨_,h,fun S'=>⟨rfl,rfl⟩⟩
  ·exact h.elim
 |build t parts =>
  simp only [aK,aL] at h ⊢
  split at h
  ·exact⟨_,h,fun S'=>⟨rfl,rfl⟩⟩
  ·exact h.elim
 |buildSlice t len parts =>
  simp only [aK,aL] at h ⊢
  split at h
  ·split at h
   ·split at h
    ·split at h
     ·exact⟨_,h,fun S'=>⟨rfl,rfl⟩⟩
     ·exact h.elim
    ·exact h.elim
   ·exact h.elim
  ·exact h.elim
 |binOp op t x y ty =>
  simp only [aK,aL] at h ⊢
  split at h
  ·split at h
   ·split at h
    ·obtain⟨d,hd,hK⟩:=h
     exact⟨_,hK,fun S'=>⟨d,hd,⟨rfl,rfl⟩⟩⟩
    ·exact h.elim
   ·split at h
    ·exact⟨_,h.out,fun S'=>oL.mk ⟨rfl,rfl⟩⟩
    ·exact h.elim
  ·split at h
   ·exact⟨_,h.2,fun S'=>⟨h.1,⟨rfl,rfl⟩⟩⟩
   ·split at h
    ·exact⟨_,h.out,fun S'=>oL.mk ⟨rfl,rfl⟩⟩
    ·exact h.elim
  ·split at h
   ·exact⟨_,h.out,fun S'=>oL.mk ⟨rfl,rfl⟩⟩
   ·exact h.elim
  ·exact h.elim
 |unOp op t x =>
  simp only [aK,aL] at h ⊢
  split at h
  ·exact⟨_,h,fun S'=>⟨rfl,rfl⟩⟩
  ·obtain⟨d,hd,hK⟩:=h
   exact⟨_,hK,fun S'=>⟨d,hd,⟨rfl,rfl⟩⟩⟩
  ·exact h.elim
 |convert src dst x =>
  simp only [aK,aL] at h ⊢
  split at h
  ·obtain⟨d,hd,hK⟩:=h
   exact⟨_,hK,fun S'=>⟨d,hd,⟨rfl,rfl⟩⟩⟩
  ·exact⟨_,h,fun S'=>⟨rfl,rfl⟩⟩
  ·exact h.elim
 |fieldAddr s x f =>
  simp only [aK,aL] at h ⊢
  split at h
  ·split at h
   ·split at h
    ·split at h
     ·exact⟨_,h,fun S'=>⟨rfl,rfl⟩⟩
     ·exact⟨_,h,fun S'=>⟨rfl,rfl⟩⟩
     ·exact h.elim
    ·exact h.elim
   ·exact h.elim
  ·exact h.elim
 |field t x f =>
  simp only [aK,aL] at h ⊢
  split at h
  ·split at h
   ·split at h
    ·split at h
     ·exact⟨_,h,fun S'=>⟨rfl,rfl⟩⟩
     ·exact h.elim
    ·exact h.elim
   ·exact h.elim
  ·exact h.elim
 |indexAddr t x i =>
  simp only [aK,aL] at h ⊢
  split at h
  ·split at h
   ·split at h
    ·exact⟨_,h.2,fun S'=>⟨h.1,⟨rfl,rfl⟩⟩⟩
    ·exact h.elim
   ·exact h.elim
  ·exact⟨_,h.2.2.2,fun S'=>⟨h.1,h.2.1,h.2.2.1,⟨rfl,rfl⟩⟩⟩
  ·split at h
   ·exact⟨_,h.2.2,fun S'=>⟨h.1,h.2.1,⟨rfl,rfl⟩⟩⟩
   ·exact h.elim
  ·split at h
   ·exact⟨_,h.2.2,fun S'=>⟨h.1,h.2.1,⟨rfl,rfl⟩⟩⟩
   ·exact h.elim
  ·exact h.elim
 |index t x i =>
  simp only [aK,aL] at h ⊢
  split at h
  ·split at h
   ·exact⟨_,h,fun S'=>⟨rfl,rfl⟩⟩
   ·exact h.elim
  ·split at h
   ·split at h
    ·exact⟨_,h.2.2,fun S'=>⟨h.1,h.2.1,⟨rfl,rfl⟩⟩⟩
    ·exact h.elim
   ·exact h.elim
  ·exact h.elim
 |slice t x lo hi mx =>
  simp only [aK,jw] at h ⊢
  split at h
  ·split at h
   ·exact⟨_,h.2.2.2,fun S'=>⟨h.1,h.2.1,h.2.2.1,⟨rfl,rfl⟩⟩⟩
   ·exact h.elim
  ·split at h
   ·exact⟨_,h.2.2.2.2.2,fun S'=>⟨h.1,h.2.1,h.2.2.1,h.2.2.2.1,h.2.2.2.2.1,⟨rfl,rfl⟩⟩⟩
   ·exact h.elim
  ·split at h
   ·exact⟨_,h.2.2.2.2.2.2,fun S'=>⟨h.1,h.2.1,h.2.2.1,h.2.2.2.1,h.2.2.2.2.1,h.2.2.2.2.2.1,⟨rfl,rfl⟩⟩⟩
   ·exact h.elim
  ·split at h
   ·exact⟨_,h.2.2.2,fun S'=>⟨h.1,h.2.1,h.2.2.1,⟨rfl,rfl⟩⟩⟩
   ·rename_i e kd l hh hu vP qQ
    obtain⟨h1,h2,h3,h4,h5,h6⟩:=h
    by_cases c:l=hh
    ·exact⟨_,h5 c,fun S'=>⟨h1,h2,h3,h4,fun _=>⟨rfl,rfl⟩,fun c'=>absurd c (by omega)⟩⟩
    ·exact⟨_,h6 (by omega),fun S'=>⟨h1,h2,h3,h4,fun c'=>absurd c' c,fun _=>⟨rfl,rfl⟩⟩⟩
   ·exact h.elim
  ·split at h
   ·exact⟨_,h.2.2.2.2.2,fun S'=>⟨h.1,h.2.1,h.2.2.1,h.2.2.2.1,h.2.2.2.2.1,⟨rfl,rfl⟩⟩⟩
   ·exact h.elim
  ·exact h.elim
 |extract x i =>
  simp only [aK,aL] at h ⊢
  split at h
  ·split at h
   ·exact⟨_,h,fun S'=>⟨rfl,rfl⟩⟩
   ·exact h.elim
  ·exact h.elim
 |makeFunc f first cap=>exact⟨_,h,fun S'=>⟨rfl,rfl⟩⟩
 |nilCheck x =>
  simp only [aK,aL] at h ⊢
  split at h
  ·exact⟨_,h,fun S'=>⟨rfl,rfl⟩⟩
  ·exact⟨_,h,fun S'=>⟨rfl,rfl⟩⟩
  ·exact h.elim
 |call c =>
  simp only [kE] at hp
  simp only [aK,aL] at h ⊢
  split at h
  ·rename_i f hc
   rw [hc] at hp
   cases hp
  ·rename_i b hc
   rw [hc] at hp
   simp only [j6,aL] at h ⊢
   split at h
   ·split at h
    ·split at h
     ·exact⟨_,h,fun S'=>⟨rfl,rfl⟩⟩
     ·exact h.elim
    ·exact h.elim
   ·cases hp
   ·split at h
    ·split at h
     ·exact⟨_,h,fun S'=>⟨rfl,rfl⟩⟩
     ·exact h.elim
    ·exact h.elim
   ·split at h
    ·split at h
     ·exact⟨_,h,fun S'=>⟨rfl,rfl⟩⟩
     ·exact h.elim
    ·exact h.elim
   ·exact h.elim
  ·exact h.elim
 |_=>cases hp
def AA.only (α:AA) (ts:List Tmp):AA:=⟨fun t=>if ts.contains t then α.tm t else .u,α.df⟩
theorem dM {ts:List Tmp}{x:Operand}(h:∀ t,x=.tmp t->t ∈ ts):(α.only ts).ev x=α.ev x:=by
 cases x with
 |tmp t =>
  show (if ts.contains t then α.tm t else .u)=α.tm t
  rw [if_pos (by simpa using h t rfl)]
 |_=>rfl
theorem bf.only {g:Gh}{w:World}{a:Act}(h:bf g w n α a) (ts:List Tmp):bf g w n (α.only ts) a:=by
 refine⟨h.size,fun t ht=>?_,fun t ht=>?_,h.df,h.oN⟩
 ·show aA g w (if ts.contains t then α.tm t else .u) _
  split
  ·exact h.tm t ht
  ·exact .u
 ·show (if ts.contains t then α.tm t else .u)=.u
  rw [h.out t ht]
  split<;>rfl
end
section
variable {P:Program}{w0:World}{n:Nat}{o:Oper}{α β:AA}{S S':aa}{r:AV}{ops:Array Oper}
def bU (o:Oper):List Tmp:=o.op.operands.toList.filterMap fun|.tmp t=>some t|_=>none
theorem dA {t:Tmp}(h:Operand.tmp t ∈ o.op.operands):t ∈ bU o:=by
 unfold bU
 rw [List.mem_filterMap]
 exact⟨.tmp t,by simpa using h,rfl⟩
theorem nn {t:Tmp}(h:t ∈ bU o):t ∈ o.looksAt ops:=List.mem_append.2 (.inl h)
def GS (P:Program) (w0:World) (n:Nat) (ops:Array Oper) (i:Nat) (α:AA) (S:aa) (α1:AA) (S1:aa):Prop :=
 ∃ o,ops[i]?=some o/\(match o.dst with|some d=>Nat.blt d n|none=>true)=true /\
  ((∃ (j:Nat) (want:Bool) (b:Option Bool),o.guard=some (j,want)/\lO ops α j=some b/\b ≠ some want/\α1=α.put o.dst (.v undef)/\S1=S) \/
   ((o.guard=none\/∃ j want,o.guard=some (j,want)/\lO ops α j=some (some want))/\∃ r,α1=α.put o.dst r/\de P w0 n o (α.only (bU o)) S r S1 /\
      (kE o.op=true->S1=S/\∀ S,de P w0 n o (α.only (bU o)) S r S)/\(sJ o.op=false->S1=S)))
theorem Ky {d:Option Tmp}{a:AV}{t:Tmp}(h:∀ e,d=some e->t ≠ e):(α.put d a).tm t=α.tm t:=by
 cases d with
 |none=>rfl
 |some e=>exact aq _ _ (h e rfl)
theorem Ud {d:Option Tmp}{a:AV}:(α.put d a).df=α.df:=by cases d<;>rfl
theorem jV {d:Option Tmp}{a:AV}{ts:List Tmp}(h:∀ e,d=some e->e ∉ ts):(α.put d a).only ts=α.only ts:=by
 unfold AA.only
 rw [Ud]
 congr 1
 funext t
 by_cases c:ts.contains t=true
 ·rw [if_pos c,if_pos c]
  exact Ky fun e he e2=>h e he (by rw [<-e2];simpa using c)
 ·rw [if_neg c,if_neg c]
theorem jU {d:Option Tmp}{a:AV}{j:Nat}(h:∀ e,d=some e->(ops[j]?).bind (·.dst) ≠ some e):lO ops (α.put d a) j=lO ops α j:=by
 unfold lO
 split
 ·rename_i t ht
  rw [Ky fun e he e2=>h e he (by rw [ht,e2])]
 ·rfl
theorem put_comm {d e:Option Tmp}{a b:AV}(h:∀ t,d=some t->e ≠ some t):(α.put d a).put e b=(α.put e b).put d a:=by
 cases d with
 |none=>rfl
 |some d =>
  cases e with
  |none=>rfl
  |some e =>
   have aP:e ≠ d:=fun he=>h d rfl (by rw [he])
   show (⟨aX (aX α.tm d a) e b,α.df⟩:AA)=⟨aX (aX α.tm e b) d a,α.df⟩
   congr 1
   funext t
   by_cases c1:t=e
   ·subst c1;rw [ah,aq _ _ aP,ah]
   ·rw [aq _ _ c1]
    by_cases c2:t=d
    ·subst c2;rw [ah,ah]
    ·rw [aq _ _ c2,aq _ _ c2,aq _ _ c1]
def IL (x y:Oper):Bool:=kE x.op || kE y.op || (!sJ x.op && !sJ y.op)
theorem GS.frame {i:Nat}{α1:AA}{S1:aa}{d:Option Tmp}{a:AV}(h:GS P w0 n ops i α S α1 S1) (hd:∀ o,ops[i]?=some o->∀ e,d=some e->e ∉ o.looksAt ops/\o.dst ≠ some e):GS P w0 n ops i (α.put d a) S (α1.put d a) S1:=by
 obtain⟨o,hi,hn,h⟩:=h
 have h1:∀ e,d=some e->e ∉ bU o:=fun e he hm=>(hd o hi e he).1 (nn hm)
 have h2:∀ j want,o.guard=some (j,want)->∀ e,d=some e->(ops[j]?).bind (·.dst) ≠ some e:=by
  intro j want hg e he h3
  refine (hd o hi e he).1 (List.mem_append.2 (.inr ?_))
  rw [hg]
  simp only
  rw [h3]
  simp
 have hc:∀ x,(α.put o.dst x).put d a=(α.put d a).put o.dst x:=fun x=>(put_comm fun t ht e=>(hd o hi t ht).2 e).symm
 refine⟨o,hi,hn,?_⟩
 rcases h with ⟨j,want,b,hg,hy,aP,rfl,rfl⟩|⟨hg,r,rfl,h3,h4,h5⟩
 ·exact .inl ⟨j,want,b,hg,by rw [jU (h2 j want hg)];exact hy,aP,hc _,rfl⟩
 ·refine .inr ⟨?_,r,hc _,by rw [jV h1];exact h3,by rw [jV h1];exact h4,h5⟩
  rcases hg with hg|⟨j,want,hg,hy⟩
  ·exact .inl hg
  ·exact .inr ⟨j,want,hg,by rw [jU (h2 j want hg)];exact hy⟩
theorem GS.shape {i:Nat}{α1:AA}{S1:aa}(h:GS P w0 n ops i α S α1 S1):∃ o a,ops[i]?=some o/\α1=α.put o.dst a/\(sJ o.op=false->S1=S)/\(kE o.op=true->S1=S):=by
 obtain⟨o,hi,hn,h⟩:=h
 rcases h with ⟨j,want,b,hg,hy,aP,rfl,rfl⟩|⟨hg,r,rfl,h3,h4,h5⟩
 ·exact⟨o,_,hi,rfl,fun _=>rfl,fun _=>rfl⟩
 ·exact⟨o,r,hi,rfl,h5,fun hp=>(h4 hp).1⟩
theorem GS.anyS {i:Nat}{α1:AA}{S1 T:aa}(h:GS P w0 n ops i α S α1 S1) (hp:∀ o,ops[i]?=some o->kE o.op=true):GS P w0 n ops i α T α1 T:=by
 obtain⟨o,hi,hn,h⟩:=h
 refine⟨o,hi,hn,?_⟩
 rcases h with ⟨j,want,b,hg,hy,aP,h1,h2⟩|⟨hg,r,h1,h3,h4,h5⟩
 ·exact .inl ⟨j,want,b,hg,hy,aP,h1,rfl⟩
 ·have h6:=(h4 (hp o hi)).2
  exact .inr ⟨hg,r,h1,h6 T,fun _=>⟨rfl,h6⟩,fun _=>rfl⟩
theorem GS.swap {i j:Nat}{oi oj:Oper}{α1 kF:AA}{S1 S2:aa}(hi:ops[i]?=some oi) (hj:ops[j]?=some oj) (nX:oi.apart ops oj=true) (hc:IL oi oj=true) (h:GS P w0 n ops i α S α1 S1) (k:GS P w0 n ops j α1 S1 kF S2) :
  ∃ oH sU,GS P w0 n ops j α S oH sU/\GS P w0 n ops i oH sU kF S2:=by
 obtain⟨e1,e2,e3⟩:=Oper.apart_spec nX
 obtain⟨kG,a,eL,rfl,hwi,JW⟩:=h.shape
 obtain rfl:kG=oi:=by rw [hi] at eL;exact (Option.some.inj eL).symm
 obtain⟨mG,b,eJ,rfl,hwj,hpj⟩:=k.shape
 obtain rfl:mG=oj:=by rw [hj] at eJ;exact (Option.some.inj eJ).symm
 have kj:∀ T T2,GS P w0 n ops j (α.put kG.dst a) T ((α.put kG.dst a).put mG.dst b) T2->GS P w0 n ops j α T (α.put mG.dst b) T2:=by
  intro T T2 hk
  obtain⟨o,ho,hn,hk⟩:=hk
  obtain rfl:o=mG:=by rw [hj] at ho;exact (Option.some.inj ho).symm
  have h1:∀ e,kG.dst=some e->e ∉ bU o:=fun e he hm=>e1 e he (nn hm)
  have h2:∀ q want,o.guard=some (q,want)->∀ e,kG.dst=some e->(ops[q]?).bind (·.dst) ≠ some e:=by
   intro q want hg e he h3
   refine e1 e he (List.mem_append.2 (.inr ?_))
   rw [hg]
   simp only
   rw [h3]
   simp
  have inj:∀ x y:AV,(α.put kG.dst a).put o.dst x=(α.put kG.dst a).put o.dst y->α.put o.dst x=α.put o.dst y:=by
   intro x y ib
   cases l9:o.dst with
   |none=>rfl
   |some d =>
    rw [l9] at ib
    have:x=y:=by
     have h3:=congrArg (fun z:AA=>z.tm d) ib
     simpa [AA.put,ah] using h3
    rw [this]
  refine⟨o,ho,hn,?_⟩
  rcases hk with ⟨q,want,c,hg,hy,aP,h3,h4⟩|⟨hg,r,h3,h4,h5,h6⟩
  ·exact .inl ⟨q,want,c,hg,by rw [<-jU (h2 q want hg)];exact hy,aP,inj _ _ h3,h4⟩
  ·rw [jV h1] at h4 h5
   refine .inr ⟨?_,r,inj _ _ h3,h4,h5,h6⟩
   rcases hg with hg|⟨q,want,hg,hy⟩
   ·exact .inl hg
   ·exact .inr ⟨q,want,hg,by rw [<-jU (h2 q want hg)];exact hy⟩
 have ki:∀ T T2,GS P w0 n ops i α T (α.put kG.dst a) T2->GS P w0 n ops i (α.put mG.dst b) T ((α.put kG.dst a).put mG.dst b) T2:=fun T T2 h'=>h'.frame fun o ho e he=>by
  obtain rfl:o=kG:=by rw [hi] at ho;exact (Option.some.inj ho).symm
  exact⟨e3 e he,fun h3=>e2 e h3 he⟩
 simp only [IL,Bool.or_eq_true,Bool.and_eq_true,Bool.not_eq_true'] at hc
 rcases hc with (hp|hp)|⟨zB,xr⟩
 ·
  have er:=JW hp
  subst er
  exact⟨_,S2,kj _ _ k,ki _ _ (h.anyS (fun o ho=>by rw [hi] at ho;rw [<-Option.some.inj ho];exact hp))⟩
 ·have pe:=hpj hp
  subst pe
  exact⟨_,S,kj _ _ (k.anyS (T:=S) (fun o ho=>by rw [hj] at ho;rw [<-Option.some.inj ho];exact hp)),ki _ _ h⟩
 ·have h1:=hwi zB
  have h2:=hwj xr
  subst h1 h2
  exact⟨_,_,kj _ _ k,ki _ _ h⟩
inductive mE (P:Program) (w0:World) (n:Nat) (ops:Array Oper):List Nat->AA->aa->AA->aa->Prop where
 |nil (α:AA) (S:aa):mE P w0 n ops [] α S α S
 |cons {i:Nat}{rest:List Nat}{α α1 ag:AA}{S S1 S':aa}(h:GS P w0 n ops i α S α1 S1) (t:mE P w0 n ops rest α1 S1 ag S'):mE P w0 n ops (i::rest) α S ag S'
def oE (ops:Array Oper) (i j:Nat):Bool :=
 match ops[i]?,ops[j]? with
 |some oi,some oj=>oi.apart ops oj && IL oi oj
 |_,_=>false
theorem mE.front {j:Nat}:∀ {C1 C2:List Nat}{α ag:AA}{S S':aa},(∀ x ∈ C1,oE ops x j=true)->mE P w0 n ops (C1++j::C2) α S ag S'->mE P w0 n ops (j::(C1++C2)) α S ag S'
 |[],C2,α,ag,S,S',_,h=>h
 |x::C1,C2,α,ag,S,S',hx,h=>by
  cases h with
  |@cons _ _ _ α1 _ _ S1 _ h t =>
   have t':=mE.front (fun y hy=>hx y (by simp [hy])) t
   cases t' with
   |@cons _ _ _ kF _ _ S2 _ k t2 =>
    have hp:=hx x (by simp)
    unfold oE at hp
    split at hp
    ·rename_i oi oj hi hj
     simp only [Bool.and_eq_true] at hp
     obtain⟨oH,sU,h1,h2⟩:=h.swap hi hj hp.1 hp.2 k
     exact .cons h1 (.cons h2 t2)
    ·cases hp
theorem mE.perm:∀ {L C:List Nat}{α ag:AA}{S S':aa},C.Pairwise (· < ·)->L.Pairwise (fun y x=>x < y->oE ops x y=true)->(∀ x,x ∈ L ↔ x ∈ C)->L.Nodup->mE P w0 n ops C α S ag S'->mE P w0 n ops L α S ag S'
 |[],C,α,ag,S,S',_,_,hm,_,h=>by
  have:C=[]:=by
   cases C with
   |nil=>rfl
   |cons x C=>have:=(hm x).2 (by simp);cases this
  subst this
  exact h
 |y::L,C,α,ag,S,S',hC,hL,hm,hn,h=>by
  obtain⟨C1,C2,rfl⟩:=List.append_of_mem ((hm y).1 (by simp))
  rw [List.pairwise_cons] at hL
  rw [List.nodup_cons] at hn
  rw [List.pairwise_append,List.pairwise_cons] at hC
  obtain⟨p1,⟨p2,p3⟩,p4⟩:=hC
  have mH:∀ x ∈ C1,x < y:=fun x hx=>p4 x hx y (by simp)
  have iN:∀ x ∈ C2,y < x:=p2
  have fI:∀ x,x ∈ L ↔ x ∈ C1++C2:=by
   intro x
   have h0:=hm x
   simp only [List.mem_cons,List.mem_append] at h0 ⊢
   constructor
   ·intro hx
    rcases h0.1 (.inr hx) with h1|h1|h1
    ·exact .inl h1
    ·subst h1;exact absurd hx hn.1
    ·exact .inr h1
   ·intro hx
    have aP:x ≠ y:=by
     rintro rfl
     rcases hx with hx|hx
     ·exact absurd (mH x hx) (Nat.lt_irrefl _)
     ·exact absurd (iN x hx) (Nat.lt_irrefl _)
    rcases h0.2 (hx.elim .inl fun h=>.inr (.inr h)) with h1|h1
    ·exact absurd h1 aP
    ·exact h1
  have hf:=mE.front (fun x hx=>hL.1 x ((fI x).2 (by simp [hx])) (mH x hx)) h
  cases hf with
  |cons h1 h2 =>
   refine .cons h1 (mE.perm (L:=L) ?_ hL.2 fI hn.2 h2)
   rw [List.pairwise_append]
   exact⟨p1,p3,fun a ha b hb=>p4 a ha b (by simp [hb])⟩
theorem mE.sI:∀ {L:List Nat}{α ag:AA}{S S':aa},mE P w0 n ops L α S ag S'->nG P w0 n ops L α S ag S'
 |[],_,_,_,_,.nil α S=>fun F m A g a w Q hF hS hA hQ=>hQ a w g hS hA (Ext.refl ..)
 |i::rest,α,ag,S,S',.cons (α1:=α1) (S1:=S1) h t=>by
  have ih:=mE.sI t
  obtain⟨o,hi,hd,h⟩:=h
  rcases h with ⟨j,want,b,hg,hy,aP,rfl,rfl⟩|⟨hg,r,rfl,h3,_,_⟩
  ·intro F m A g a w Q hF hS hA hQ
   have vk:¬ Region.wanted o (yielded ops a.tmps)=true:=by simp [Region.wanted,hg,kW hA hy,aP]
   simp only [wpOpsIn,hi]
   rw [if_neg vk]
   exact⟨fun f _=>hF.1 f,ih F m A g _ w Q hF hS (gV hA hd .v) hQ⟩
  ·intro F m A g a w Q hF hS hA hQ
   have hw:Region.wanted o (yielded ops a.tmps)=true:=by
    rcases hg with hg|⟨j,want,hg,hy⟩
    ·simp [Region.wanted,hg]
    ·simp [Region.wanted,hg,kW hA hy]
   simp only [wpOpsIn,hi]
   rw [if_pos hw]
   refine⟨fun f _=>hF.1 f,h3 F m A g a w _ Q hF hS (hA.only _) fun v w' g' hr dO hE=>?_⟩
   exact ih F m A g' _ w' Q hF dO (gV (hA.later hE.toLater) hd hr) fun a' iY qv h1 h2 h3=>hQ a' iY qv h1 h2 (hE.trans h3)
end
end Go.Proofs.YtgjfgekaclobaaaGreat
