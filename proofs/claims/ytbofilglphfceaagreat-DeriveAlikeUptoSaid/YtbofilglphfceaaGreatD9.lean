import Derived.Orders
import Derived.Test.YtbofilglphfceaaGreatD8
namespace Go.Proofs.YtbofilglphfceaaGreat
set_option linter.unusedVariables false
set_option linter.unusedSimpArgs false
open Go.RowKit
section
variable {P:Program}{w0:World}{n:Nat}{o:Oper}{α β:AA}{S S':U}{r:AV}
theorem kG {γ δ:Type}{l:Array γ}{f g:γ->δ}(h:∀ x ∈ l,f x=g x):l.toList.map f=l.toList.map g:=List.map_congr_left fun x hx=>h x (by simpa using hx)
theorem Ca {op:Op}{K:AV->U->Prop}(h:∀ x ∈ op.operands,α.ev x=β.ev x) (H:aE P w0 op α S K):aE P w0 op β S K:=by
 cases op with
 |move x=>simp only [aE,aD] at H ⊢;rw [<-h x (by simp [Op.operands])];exact H
 |assign x=>simp only [aE,aD] at H ⊢;rw [<-h x (by simp [Op.operands])];exact H
 |pick c a b=>simp only [aE,aD] at H ⊢;rw [<-h c (by simp [Op.operands]),<-h a (by simp [Op.operands]),<-h b (by simp [Op.operands])];exact H
 |alloc e=>exact H
 |box e x=>simp only [aE,aD] at H ⊢;rw [<-h x (by simp [Op.operands])];exact H
 |build t parts =>
  simp only [aE,aD] at H ⊢
  have e:(parts.toList.map fun (i,x)=>(i,α.ev x))=parts.toList.map fun (i,x)=>(i,β.ev x):=List.map_congr_left fun p hp=>by
   have:=h p.2 (by simp only [Op.operands,List.mem_toArray,List.mem_map];exact⟨p,hp,rfl⟩)
   show (p.1,α.ev p.2)=(p.1,β.ev p.2)
   rw [this]
  rw [<-e]
  exact H
 |buildSlice t len parts =>
  simp only [aE,aD] at H ⊢
  have e:(parts.toList.map fun (i,x)=>(i,α.ev x))=parts.toList.map fun (i,x)=>(i,β.ev x):=List.map_congr_left fun p hp=>by
   have:=h p.2 (by simp only [Op.operands,List.mem_toArray,List.mem_map];exact⟨p,hp,rfl⟩)
   show (p.1,α.ev p.2)=(p.1,β.ev p.2)
   rw [this]
  rw [<-e]
  exact H
 |load t x=>simp only [aE,aD] at H ⊢;rw [<-h x (by simp [Op.operands])];exact H
 |store t x b=>simp only [aE,aD] at H ⊢;rw [<-h x (by simp [Op.operands]),<-h b (by simp [Op.operands])];exact H
 |binOp op t x y ty=>simp only [aE,aD] at H ⊢;rw [<-h x (by simp [Op.operands]),<-h y (by simp [Op.operands])];exact H
 |unOp op t x=>simp only [aE,aD] at H ⊢;rw [<-h x (by simp [Op.operands])];exact H
 |convert src dst x=>simp only [aE,aD] at H ⊢;rw [<-h x (by simp [Op.operands])];exact H
 |fieldAddr s x f=>simp only [aE,aD] at H ⊢;rw [<-h x (by simp [Op.operands])];exact H
 |field t x f=>simp only [aE,aD] at H ⊢;rw [<-h x (by simp [Op.operands])];exact H
 |indexAddr t x i=>simp only [aE,aD] at H ⊢;rw [<-h x (by simp [Op.operands]),<-h i (by simp [Op.operands])];exact H
 |index t x i=>simp only [aE,aD] at H ⊢;rw [<-h x (by simp [Op.operands]),<-h i (by simp [Op.operands])];exact H
 |slice t x lo hi mx =>
  simp only [aE,aD] at H ⊢
  have e:∀ z:Option Operand,(∀ y ∈ z,y ∈ (Op.slice t x lo hi mx).operands)->z.map α.ev=z.map β.ev:=by
   intro z hz
   cases z with
   |none=>rfl
   |some y=>simp only [Option.map_some];rw [h y (hz y rfl)]
  rw [<-h x (by simp [Op.operands]),<-e lo (fun y hy=>by simp [Op.operands];simp at hy;simp [hy]),<-e hi (fun y hy=>by simp [Op.operands];simp at hy;simp [hy]),<-e mx (fun y hy=>by simp [Op.operands];simp at hy;simp [hy])]
  exact H
 |extract x i=>simp only [aE,aD] at H ⊢;rw [<-h x (by simp [Op.operands])];exact H
 |makeFunc f first cap =>
  simp only [aE,aD] at H ⊢
  rw [<-kG (l:=first) fun x hx=>h x (by simp [Op.operands,hx]),<-kG (l:=cap) fun x hx=>h x (by simp [Op.operands,hx])]
  exact H
 |nilCheck x=>simp only [aE,aD] at H ⊢;rw [<-h x (by simp [Op.operands])];exact H
 |makeSlice t l c=>simp only [aE,aD] at H ⊢;rw [<-h l (by simp [Op.operands]),<-h c (by simp [Op.operands])];exact H
 |range t x=>simp only [aE,aD] at H ⊢;rw [<-h x (by simp [Op.operands])];exact H
 |next x b=>simp only [aE,aD] at H ⊢;rw [<-h x (by simp [Op.operands])];exact H
 |call c =>
  have e:c.args.toList.map α.ev=c.args.toList.map β.ev:=kG fun x hx=>h x (by simp [Op.operands,Call.operands,hx])
  simp only [aE,aD] at H ⊢
  split at H
  ·rename_i f hc
   rw [<-e,<-h f (by simp [Op.operands,Call.operands,hc])]
   exact H
  ·rw [<-e]
   exact H
  ·exact H.elim
 |_=>exact H.elim
def fk:Op->Bool
 |.move _|.assign _|.pick ..|.build ..|.buildSlice ..|.binOp ..|.unOp ..|.convert ..|.fieldAddr ..|.field ..|.indexAddr ..|.index ..|.slice ..|.extract ..|.makeFunc ..|.nilCheck _=>true
 |.call c=>match c.callee with|.builtin .len|.builtin .min|.builtin .max=>true|_=>false
 |_=>false
def ra:Op->Bool
 |.load ..=>false
 |.call c=>match c.callee with|.value _=>false|.builtin .len|.builtin .min|.builtin .max=>false|_=>true
 |o=>!fk o
theorem K5 {t:Bool}{X Y:Prop}(h:br t X Y):(t=true/\X)\/(t=false/\Y):=by cases t;exact .inr ⟨rfl,h⟩;exact .inl ⟨rfl,h⟩
def nS (r:AV) (S:U) (r':AV) (S':U):Prop:=r'=r/\S'=S
theorem K_ {op:Op}{K:AV->U->Prop}(hp:fk op=true) (h:aE P w0 op α S K):∃ r,K r S/\∀ S',aE P w0 op α S' (nS r S'):=by
 cases op with
 |move x=>exact⟨_,h,fun S'=>⟨rfl,rfl⟩⟩
 |assign x=>exact⟨_,h,fun S'=>⟨rfl,rfl⟩⟩
 |pick c a b =>
  simp only [aE,aD] at h ⊢
  split at h
  ·rcases K5 h with ⟨rfl,h⟩|⟨rfl,h⟩
   ·exact⟨_,h,fun S'=>⟨rfl,rfl⟩⟩
   ·exact⟨_,h,fun S'=>⟨rfl,rfl⟩⟩
  ·exact h.elim
 |build t parts =>
  simp only [aE,aD] at h ⊢
  split at h
  ·exact⟨_,h,fun S'=>⟨rfl,rfl⟩⟩
  ·exact h.elim
 |buildSlice t len parts =>
  simp only [aE,aD] at h ⊢
  split at h
  ·split at h
   ·split at h
    ·split at h
     ·exact⟨_,h,fun S'=>⟨rfl,rfl⟩⟩
     ·exact h.elim
    ·exact h.elim
   ·exact h.elim
  ·exact h.elim
 |binOp op t x y ty =>
  simp only [aE,aD] at h ⊢
  split at h
  ·split at h
   ·split at h
    ·obtain⟨d,hd,hK⟩:=h
     exact⟨_,hK,fun S'=>⟨d,hd,⟨rfl,rfl⟩⟩⟩
    ·exact h.elim
   ·split at h
    ·exact⟨_,h.out,fun S'=>ly.mk ⟨rfl,rfl⟩⟩
    ·exact h.elim
  ·split at h
   ·exact⟨_,h.2,fun S'=>⟨h.1,⟨rfl,rfl⟩⟩⟩
   ·split at h
    ·exact⟨_,h.out,fun S'=>ly.mk ⟨rfl,rfl⟩⟩
    ·exact h.elim
  ·split at h
   ·exact⟨_,h.out,fun S'=>ly.mk ⟨rfl,rfl⟩⟩
   ·exact h.elim
  ·exact h.elim
 |unOp op t x =>
  simp only [aE,aD] at h ⊢
  split at h
  ·exact⟨_,h,fun S'=>⟨rfl,rfl⟩⟩
  ·obtain⟨d,hd,hK⟩:=h
   exact⟨_,hK,fun S'=>⟨d,hd,⟨rfl,rfl⟩⟩⟩
  ·exact h.elim
 |convert src dst x =>
  simp only [aE,aD] at h ⊢
  split at h
  ·obtain⟨d,hd,hK⟩:=h
   exact⟨_,hK,fun S'=>⟨d,hd,⟨rfl,rfl⟩⟩⟩
  ·exact⟨_,h,fun S'=>⟨rfl,rfl⟩⟩
  ·exact h.elim
 |fieldAddr s x f =>
  simp only [aE,aD] at h ⊢
  split at h
  ·split at h
   ·split at h
    ·split at h
     ·exact⟨_,h,fun S'=>⟨rfl,rfl⟩⟩
     ·exact⟨_,h,fun S'=>⟨rfl,rfl⟩⟩
     ·exact h.elim
    ·exact h.elim
   ·exact h.elim
  ·exact h.elim
 |field t x f =>
  simp only [aE,aD] at h ⊢
  split at h
  ·split at h
   ·split at h
    ·split at h
     ·exact⟨_,h,fun S'=>⟨rfl,rfl⟩⟩
     ·exact h.elim
    ·exact h.elim
   ·exact h.elim
  ·exact h.elim
 |indexAddr t x i =>
  simp only [aE,aD] at h ⊢
  split at h
  ·split at h
   ·split at h
    ·exact⟨_,h.2,fun S'=>⟨h.1,⟨rfl,rfl⟩⟩⟩
    ·exact h.elim
   ·exact h.elim
  ·exact⟨_,h.2.2.2,fun S'=>⟨h.1,h.2.1,h.2.2.1,⟨rfl,rfl⟩⟩⟩
  ·split at h
   ·exact⟨_,h.2.2,fun S'=>⟨h.1,h.2.1,⟨rfl,rfl⟩⟩⟩
   ·exact h.elim
  ·split at h
   ·exact⟨_,h.2.2,fun S'=>⟨h.1,h.2.1,⟨rfl,rfl⟩⟩⟩
   ·exact h.elim
  ·exact h.elim
 |index t x i =>
  simp only [aE,aD] at h ⊢
  split at h
  ·split at h
   ·exact⟨_,h,fun S'=>⟨rfl,rfl⟩⟩
   ·exact h.elim
  ·split at h
   ·split at h
    ·exact⟨_,h.2.2,fun S'=>⟨h.1,h.2.1,⟨rfl,rfl⟩⟩⟩
    ·exact h.elim
   ·exact h.elim
  ·exact h.elim
 |slice t x lo hi mx =>
  simp only [aE,f_] at h ⊢
  split at h
  ·split at h
   ·exact⟨_,h.2.2.2,fun S'=>⟨h.1,h.2.1,h.2.2.1,⟨rfl,rfl⟩⟩⟩
   ·exact h.elim
  ·split at h
   ·exact⟨_,h.2.2.2.2.2,fun S'=>⟨h.1,h.2.1,h.2.2.1,h.2.2.2.1,h.2.2.2.2.1,⟨rfl,rfl⟩⟩⟩
   ·exact h.elim
  ·split at h
   ·exact⟨_,h.2.2.2.2.2.2,fun S'=>⟨h.1,h.2.1,h.2.2.1,h.2.2.2.1,h.2.2.2.2.1,h.2.2.2.2.2.1,⟨rfl,rfl⟩⟩⟩
   ·exact h.elim
  ·split at h
   ·exact⟨_,h.2.2.2,fun S'=>⟨h.1,h.2.1,h.2.2.1,⟨rfl,rfl⟩⟩⟩
   ·rename_i e kd l hh hu wx mR
    obtain⟨h1,h2,h3,h4,h5,h6⟩:=h
    by_cases c:l=hh
    ·exact⟨_,h5 c,fun S'=>⟨h1,h2,h3,h4,fun _=>⟨rfl,rfl⟩,fun c'=>absurd c (by omega)⟩⟩
    ·exact⟨_,h6 (by omega),fun S'=>⟨h1,h2,h3,h4,fun c'=>absurd c' c,fun _=>⟨rfl,rfl⟩⟩⟩
   ·exact h.elim
  ·split at h
   ·exact⟨_,h.2.2.2.2.2,fun S'=>⟨h.1,h.2.1,h.2.2.1,h.2.2.2.1,h.2.2.2.2.1,⟨rfl,rfl⟩⟩⟩
   ·exact h.elim
  ·exact h.elim
 |extract x i =>
  simp only [aE,aD] at h ⊢
  split at h
  ·split at h
   ·exact⟨_,h,fun S'=>⟨rfl,rfl⟩⟩
   ·exact h.elim
  ·exact h.elim
 |makeFunc f first cap=>exact⟨_,h,fun S'=>⟨rfl,rfl⟩⟩
 |nilCheck x =>
  simp only [aE,aD] at h ⊢
  split at h
  ·exact⟨_,h,fun S'=>⟨rfl,rfl⟩⟩
  ·exact⟨_,h,fun S'=>⟨rfl,rfl⟩⟩
  ·exact h.elim
 |call c =>
  simp only [fk] at hp
  simp only [aE,aD] at h ⊢
  split at h
  ·rename_i f hc
   rw [hc] at hp
   cases hp
  ·rename_i b hc
   rw [hc] at hp
   simp only [gO,aD] at h ⊢
   split at h
   ·split at h
    ·split at h
     ·exact⟨_,h,fun S'=>⟨rfl,rfl⟩⟩
     ·exact h.elim
    ·exact h.elim
   ·cases hp
   ·split at h
    ·split at h
     ·exact⟨_,h,fun S'=>⟨rfl,rfl⟩⟩
     ·exact h.elim
    ·exact h.elim
   ·split at h
    ·split at h
     ·exact⟨_,h,fun S'=>⟨rfl,rfl⟩⟩
     ·exact h.elim
    ·exact h.elim
   ·exact h.elim
  ·exact h.elim
 |_=>cases hp
def AA.only (α:AA) (ts:List Tmp):AA:=⟨fun t=>if ts.contains t then α.tm t else .u,α.df⟩
theorem fm {ts:List Tmp}{x:Operand}(h:∀ t,x=.tmp t->t ∈ ts):(α.only ts).ev x=α.ev x:=by
 cases x with
 |tmp t =>
  show (if ts.contains t then α.tm t else .u)=α.tm t
  rw [if_pos (by simpa using h t rfl)]
 |_=>rfl
theorem aX.only {g:Gh}{w:World}{a:Act}(h:aX g w n α a) (ts:List Tmp):aX g w n (α.only ts) a:=by
 refine⟨h.size,fun t ht=>?_,fun t ht=>?_,h.df,h.nU⟩
 ·show ao g w (if ts.contains t then α.tm t else .u) _
  split
  ·exact h.tm t ht
  ·exact .u
 ·show (if ts.contains t then α.tm t else .u)=.u
  rw [h.out t ht]
  split<;>rfl
end
section
variable {P:Program}{w0:World}{n:Nat}{o:Oper}{α β:AA}{S S':U}{r:AV}{ops:Array Oper}
def cb (o:Oper):List Tmp:=o.op.operands.toList.filterMap fun|.tmp t=>some t|_=>none
theorem eU {t:Tmp}(h:Operand.tmp t ∈ o.op.operands):t ∈ cb o:=by
 unfold cb
 rw [List.mem_filterMap]
 exact⟨.tmp t,by simpa using h,rfl⟩
theorem kg {t:Tmp}(h:t ∈ cb o):t ∈ o.looksAt ops:=List.mem_append.2 (.inl h)
def GS (P:Program) (w0:World) (n:Nat) (ops:Array Oper) (i:Nat) (α:AA) (S:U) (α1:AA) (S1:U):Prop :=
 ∃ o,ops[i]?=some o/\(match o.dst with|some d=>Nat.blt d n|none=>true)=true /\
  ((∃ (j:Nat) (want:Bool) (b:Option Bool),o.guard=some (j,want)/\je ops α j=some b/\b ≠ some want/\α1=α.put o.dst (.v undef)/\S1=S) \/
   ((o.guard=none\/∃ j want,o.guard=some (j,want)/\je ops α j=some (some want))/\∃ r,α1=α.put o.dst r/\cP P w0 n o (α.only (cb o)) S r S1 /\
      (fk o.op=true->S1=S/\∀ S,cP P w0 n o (α.only (cb o)) S r S)/\(ra o.op=false->S1=S)))
theorem Dw {d:Option Tmp}{a:AV}{t:Tmp}(h:∀ e,d=some e->t ≠ e):(α.put d a).tm t=α.tm t:=by
 cases d with
 |none=>rfl
 |some e=>exact aw _ _ (h e rfl)
theorem K6 {d:Option Tmp}{a:AV}:(α.put d a).df=α.df:=by cases d<;>rfl
theorem gL {d:Option Tmp}{a:AV}{ts:List Tmp}(h:∀ e,d=some e->e ∉ ts):(α.put d a).only ts=α.only ts:=by
 unfold AA.only
 rw [K6]
 congr 1
 funext t
 by_cases c:ts.contains t=true
 ·rw [if_pos c,if_pos c]
  exact Dw fun e he e2=>h e he (by rw [<-e2];simpa using c)
 ·rw [if_neg c,if_neg c]
theorem gK {d:Option Tmp}{a:AV}{j:Nat}(h:∀ e,d=some e->(ops[j]?).bind (·.dst) ≠ some e):je ops (α.put d a) j=je ops α j:=by
 unfold je
 split
 ·rename_i t ht
  rw [Dw fun e he e2=>h e he (by rw [ht,e2])]
 ·rfl
theorem put_comm {d e:Option Tmp}{a b:AV}(h:∀ t,d=some t->e ≠ some t):(α.put d a).put e b=(α.put e b).put d a:=by
 cases d with
 |none=>rfl
 |some d =>
  cases e with
  |none=>rfl
  |some e =>
   have aM:e ≠ d:=fun he=>h d rfl (by rw [he])
   show (⟨a6 (a6 α.tm d a) e b,α.df⟩:AA)=⟨a6 (a6 α.tm e b) d a,α.df⟩
   congr 1
   funext t
   by_cases c1:t=e
   ·subst c1;rw [ah,aw _ _ aM,ah]
   ·rw [aw _ _ c1]
    by_cases c2:t=d
    ·subst c2;rw [ah,ah]
    ·rw [aw _ _ c2,aw _ _ c2,aw _ _ c1]
def B7 (x y:Oper):Bool:=fk x.op || fk y.op || (!ra x.op && !ra y.op)
theorem GS.frame {i:Nat}{α1:AA}{S1:U}{d:Option Tmp}{a:AV}(h:GS P w0 n ops i α S α1 S1) (hd:∀ o,ops[i]?=some o->∀ e,d=some e->e ∉ o.looksAt ops/\o.dst ≠ some e):GS P w0 n ops i (α.put d a) S (α1.put d a) S1:=by
 obtain⟨o,hi,hn,h⟩:=h
 have h1:∀ e,d=some e->e ∉ cb o:=fun e he hm=>(hd o hi e he).1 (kg hm)
 have h2:∀ j want,o.guard=some (j,want)->∀ e,d=some e->(ops[j]?).bind (·.dst) ≠ some e:=by
  intro j want hg e he h3
  refine (hd o hi e he).1 (List.mem_append.2 (.inr ?_))
  rw [hg]
  simp only
  rw [h3]
  simp
 have hc:∀ x,(α.put o.dst x).put d a=(α.put d a).put o.dst x:=fun x=>(put_comm fun t ht e=>(hd o hi t ht).2 e).symm
 refine⟨o,hi,hn,?_⟩
 rcases h with ⟨j,want,b,hg,hy,aM,rfl,rfl⟩|⟨hg,r,rfl,h3,h4,h5⟩
 ·exact .inl ⟨j,want,b,hg,by rw [gK (h2 j want hg)];exact hy,aM,hc _,rfl⟩
 ·refine .inr ⟨?_,r,hc _,by rw [gL h1];exact h3,by rw [gL h1];exact h4,h5⟩
  rcases hg with hg|⟨j,want,hg,hy⟩
  ·exact .inl hg
  ·exact .inr ⟨j,want,hg,by rw [gK (h2 j want hg)];exact hy⟩
theorem GS.shape {i:Nat}{α1:AA}{S1:U}(h:GS P w0 n ops i α S α1 S1):∃ o a,ops[i]?=some o/\α1=α.put o.dst a/\(ra o.op=false->S1=S)/\(fk o.op=true->S1=S):=by
 obtain⟨o,hi,hn,h⟩:=h
 rcases h with ⟨j,want,b,hg,hy,aM,rfl,rfl⟩|⟨hg,r,rfl,h3,h4,h5⟩
 ·exact⟨o,_,hi,rfl,fun _=>rfl,fun _=>rfl⟩
 ·exact⟨o,r,hi,rfl,h5,fun hp=>(h4 hp).1⟩
theorem GS.anyS {i:Nat}{α1:AA}{S1 T:U}(h:GS P w0 n ops i α S α1 S1) (hp:∀ o,ops[i]?=some o->fk o.op=true):GS P w0 n ops i α T α1 T:=by
 obtain⟨o,hi,hn,h⟩:=h
 refine⟨o,hi,hn,?_⟩
 rcases h with ⟨j,want,b,hg,hy,aM,h1,h2⟩|⟨hg,r,h1,h3,h4,h5⟩
 ·exact .inl ⟨j,want,b,hg,hy,aM,h1,rfl⟩
 ·have h6:=(h4 (hp o hi)).2
  exact .inr ⟨hg,r,h1,h6 T,fun _=>⟨rfl,h6⟩,fun _=>rfl⟩
theorem GS.swap {i j:Nat}{oi oj:Oper}{α1 lY:AA}{S1 S2:U}(hi:ops[i]?=some oi) (hj:ops[j]?=some oj) (fc:oi.apart ops oj=true) (hc:B7 oi oj=true) (h:GS P w0 n ops i α S α1 S1) (k:GS P w0 n ops j α1 S1 lY S2) :
  ∃ lr ov,GS P w0 n ops j α S lr ov/\GS P w0 n ops i lr ov lY S2:=by
 obtain⟨e1,e2,e3⟩:=Oper.apart_spec fc
 obtain⟨hP,a,dD,rfl,T5,CV⟩:=h.shape
 obtain rfl:hP=oi:=by rw [hi] at dD;exact (Option.some.inj dD).symm
 obtain⟨jz,b,hO,rfl,T6,T7⟩:=k.shape
 obtain rfl:jz=oj:=by rw [hj] at hO;exact (Option.some.inj hO).symm
 have kj:∀ T T2,GS P w0 n ops j (α.put hP.dst a) T ((α.put hP.dst a).put jz.dst b) T2->GS P w0 n ops j α T (α.put jz.dst b) T2:=by
  intro T T2 hk
  obtain⟨o,ho,hn,hk⟩:=hk
  obtain rfl:o=jz:=by rw [hj] at ho;exact (Option.some.inj ho).symm
  have h1:∀ e,hP.dst=some e->e ∉ cb o:=fun e he hm=>e1 e he (kg hm)
  have h2:∀ q want,o.guard=some (q,want)->∀ e,hP.dst=some e->(ops[q]?).bind (·.dst) ≠ some e:=by
   intro q want hg e he h3
   refine e1 e he (List.mem_append.2 (.inr ?_))
   rw [hg]
   simp only
   rw [h3]
   simp
  have inj:∀ x y:AV,(α.put hP.dst a).put o.dst x=(α.put hP.dst a).put o.dst y->α.put o.dst x=α.put o.dst y:=by
   intro x y iS
   cases rk:o.dst with
   |none=>rfl
   |some d =>
    rw [rk] at iS
    have:x=y:=by
     have h3:=congrArg (fun z:AA=>z.tm d) iS
     simpa [AA.put,ah] using h3
    rw [this]
  refine⟨o,ho,hn,?_⟩
  rcases hk with ⟨q,want,c,hg,hy,aM,h3,h4⟩|⟨hg,r,h3,h4,h5,h6⟩
  ·exact .inl ⟨q,want,c,hg,by rw [<-gK (h2 q want hg)];exact hy,aM,inj _ _ h3,h4⟩
  ·rw [gL h1] at h4 h5
   refine .inr ⟨?_,r,inj _ _ h3,h4,h5,h6⟩
   rcases hg with hg|⟨q,want,hg,hy⟩
   ·exact .inl hg
   ·exact .inr ⟨q,want,hg,by rw [<-gK (h2 q want hg)];exact hy⟩
 have ki:∀ T T2,GS P w0 n ops i α T (α.put hP.dst a) T2->GS P w0 n ops i (α.put jz.dst b) T ((α.put hP.dst a).put jz.dst b) T2:=fun T T2 h'=>h'.frame fun o ho e he=>by
  obtain rfl:o=hP:=by rw [hi] at ho;exact (Option.some.inj ho).symm
  exact⟨e3 e he,fun h3=>e2 e h3 he⟩
 simp only [B7,Bool.or_eq_true,Bool.and_eq_true,Bool.not_eq_true'] at hc
 rcases hc with (hp|hp)|⟨tF,rH⟩
 ·
  have dF:=CV hp
  subst dF
  exact⟨_,S2,kj _ _ k,ki _ _ (h.anyS (fun o ho=>by rw [hi] at ho;rw [<-Option.some.inj ho];exact hp))⟩
 ·have km:=T7 hp
  subst km
  exact⟨_,S,kj _ _ (k.anyS (T:=S) (fun o ho=>by rw [hj] at ho;rw [<-Option.some.inj ho];exact hp)),ki _ _ h⟩
 ·have h1:=T5 tF
  have h2:=T6 rH
  subst h1 h2
  exact⟨_,_,kj _ _ k,ki _ _ h⟩
inductive jw (P:Program) (w0:World) (n:Nat) (ops:Array Oper):List Nat->AA->U->AA->U->Prop where
 |nil (α:AA) (S:U):jw P w0 n ops [] α S α S
 |cons {i:Nat}{rest:List Nat}{α α1 af:AA}{S S1 S':U}(h:GS P w0 n ops i α S α1 S1) (t:jw P w0 n ops rest α1 S1 af S'):jw P w0 n ops (i::rest) α S af S'
def lj (ops:Array Oper) (i j:Nat):Bool :=
 match ops[i]?,ops[j]? with
 |some oi,some oj=>oi.apart ops oj && B7 oi oj
 |_,_=>false
theorem jw.front {j:Nat}:∀ {C1 C2:List Nat}{α af:AA}{S S':U},(∀ x ∈ C1,lj ops x j=true)->jw P w0 n ops (C1++j::C2) α S af S'->jw P w0 n ops (j::(C1++C2)) α S af S'
 |[],C2,α,af,S,S',_,h=>h
 |x::C1,C2,α,af,S,S',hx,h=>by
  cases h with
  |@cons _ _ _ α1 _ _ S1 _ h t =>
   have t':=jw.front (fun y hy=>hx y (by simp [hy])) t
   cases t' with
   |@cons _ _ _ lY _ _ S2 _ k t2 =>
    have hp:=hx x (by simp)
    unfold lj at hp
    split at hp
    ·rename_i oi oj hi hj
     simp only [Bool.and_eq_true] at hp
     obtain⟨lr,ov,h1,h2⟩:=h.swap hi hj hp.1 hp.2 k
     exact .cons h1 (.cons h2 t2)
    ·cases hp
theorem jw.perm:∀ {L C:List Nat}{α af:AA}{S S':U},C.Pairwise (· < ·)->L.Pairwise (fun y x=>x < y->lj ops x y=true)->(∀ x,x ∈ L ↔ x ∈ C)->L.Nodup->jw P w0 n ops C α S af S'->jw P w0 n ops L α S af S'
 |[],C,α,af,S,S',_,_,hm,_,h=>by
  have:C=[]:=by
   cases C with
   |nil=>rfl
   |cons x C=>have:=(hm x).2 (by simp);cases this
  subst this
  exact h
 |y::L,C,α,af,S,S',hC,hL,hm,hn,h=>by
  obtain⟨C1,C2,rfl⟩:=List.append_of_mem ((hm y).1 (by simp))
  rw [List.pairwise_cons] at hL
  rw [List.nodup_cons] at hn
  rw [List.pairwise_append,List.pairwise_cons] at hC
  obtain⟨p1,⟨p2,p3⟩,p4⟩:=hC
  have dR:∀ x ∈ C1,x < y:=fun x hx=>p4 x hx y (by simp)
  have bI:∀ x ∈ C2,y < x:=p2
  have fK:∀ x,x ∈ L ↔ x ∈ C1++C2:=by
   intro x
   have h0:=hm x
   simp only [List.mem_cons,List.mem_append] at h0 ⊢
   constructor
   ·intro hx
    rcases h0.1 (.inr hx) with h1|h1|h1
    ·exact .inl h1
    ·subst h1;exact absurd hx hn.1
    ·exact .inr h1
   ·intro hx
    have aM:x ≠ y:=by
     rintro rfl
     rcases hx with hx|hx
     ·exact absurd (dR x hx) (Nat.lt_irrefl _)
     ·exact absurd (bI x hx) (Nat.lt_irrefl _)
    rcases h0.2 (hx.elim .inl fun h=>.inr (.inr h)) with h1|h1
    ·exact absurd h1 aM
    ·exact h1
  have hf:=jw.front (fun x hx=>hL.1 x ((fK x).2 (by simp [hx])) (dR x hx)) h
  cases hf with
  |cons h1 h2 =>
   refine .cons h1 (jw.perm (L:=L) ?_ hL.2 fK hn.2 h2)
   rw [List.pairwise_append]
   exact⟨p1,p3,fun a ha b hb=>p4 a ha b (by simp [hb])⟩
theorem jw.oe:∀ {L:List Nat}{α af:AA}{S S':U},jw P w0 n ops L α S af S'->lq P w0 n ops L α S af S'
 |[],_,_,_,_,.nil α S=>fun F m A g a w Q hF hS hA hQ=>hQ a w g hS hA (Ext.refl ..)
 |i::rest,α,af,S,S',.cons (α1:=α1) (S1:=S1) h t=>by
  have ih:=jw.oe t
  obtain⟨o,hi,hd,h⟩:=h
  rcases h with ⟨j,want,b,hg,hy,aM,rfl,rfl⟩|⟨hg,r,rfl,h3,_,_⟩
  ·intro F m A g a w Q hF hS hA hQ
   have tp:¬ Region.wanted o (yielded ops a.tmps)=true:=by simp [Region.wanted,hg,kh hA hy,aM]
   simp only [wpOpsIn,hi]
   rw [if_neg tp]
   exact⟨fun f _=>hF.1 f,ih F m A g _ w Q hF hS (gu hA hd .v) hQ⟩
  ·intro F m A g a w Q hF hS hA hQ
   have hw:Region.wanted o (yielded ops a.tmps)=true:=by
    rcases hg with hg|⟨j,want,hg,hy⟩
    ·simp [Region.wanted,hg]
    ·simp [Region.wanted,hg,kh hA hy]
   simp only [wpOpsIn,hi]
   rw [if_pos hw]
   refine⟨fun f _=>hF.1 f,h3 F m A g a w _ Q hF hS (hA.only _) fun v w' g' hr ew hE=>?_⟩
   exact ih F m A g' _ w' Q hF ew (gu (hA.later hE.toLater) hd hr) fun a' mG rm h1 h2 h3=>hQ a' mG rm h1 h2 (hE.trans h3)
end
end Go.Proofs.YtbofilglphfceaaGreat
