import Derived.Test.YtgjfgekaclobaaaGreatCm10
namespace Go.Proofs.YtgjfgekaclobaaaGreat
set_option linter.unusedVariables false
set_option linter.unusedSimpArgs false
open Go.RowKit
def IW {β:Type}(r:AV) (k:AV->β):β:=match r with
 |.u=>k .u
 |.v x=>k (.v x)
 |.agg l=>k (.agg l)
 |.aC l=>k (.aC l)
 |.sl e l=>k (.sl e l)
 |.ip l=>k (.ip l)
 |.ob a b c d e=>k (.ob a b c d e)
 |.pt a b c d=>k (.pt a b c d)
 |.mp a=>k (.mp a)
 |.fn a b c=>k (.fn a b c)
 |.yl a=>k (.yl a)
 |.gr a b c=>k (.gr a b c)
theorem IX {β:Type}{r:AV}{k:AV->β}:IW r k=k r:=by cases r<;>rfl
def jR {β:Type}:List AV->(List AV->β)->β
 |[],k=>k []
 |a::l,k=>IW a fun a=>jR l fun l=>k (a::l)
theorem lP {β:Type}:∀ {l:List AV}{k:List AV->β},jR l k=k l
 |[],k=>rfl
 |a::l,k=>by rw [jR,IX,lP]
def EV {β:Type}(r:AV) (k:AV->β):β:=match r with
 |.u=>k .u
 |.v x=>k (.v x)
 |.agg l=>jR l fun l=>k (.agg l)
 |.aC l=>jR l fun l=>k (.aC l)
 |.sl e l=>k (.sl e l)
 |.ip l=>jR l fun l=>k (.ip l)
 |.ob a b c d e=>k (.ob a b c d e)
 |.pt a b c d=>k (.pt a b c d)
 |.mp a=>k (.mp a)
 |.fn a b c=>jR b fun b=>jR c fun c=>k (.fn a b c)
 |.yl a=>k (.yl a)
 |.gr a b c=>k (.gr a b c)
theorem AX {β:Type}{r:AV}{k:AV->β}:EV r k=k r:=by
 cases r<;>simp only [EV,lP]
def w9 {β:Type}:List (List AV)->(List (List AV)->β)->β
 |[],k=>k []
 |a::l,k=>jR a fun a=>w9 l fun l=>k (a::l)
theorem zn {β:Type}:∀ {l:List (List AV)}{k:List (List AV)->β},w9 l k=k l
 |[],k=>rfl
 |a::l,k=>by rw [w9,lP,zn]
def yu (S:aa) (cs:List AV):Option (AV × aa):=jR cs fun cs=>match S with|⟨g,x⟩=>some (.pt x cs.length 0 0,⟨aX g x (some (.arr cs.length [cs] 0 true)),x+1⟩)
theorem mP {S:aa}{cs:List AV}:yu S cs=some (lZ S cs):=by
 unfold yu
 rw [lP]
 rfl
def sL (P:Program) (S:aa) (t:TypeId) (b:AV):AV->Option aa
 |.pt k sz 0 j=>match S.get k with
  |some (.arr sz' [row] 0 ex)=>match Nat.beq sz sz' && (aG b).all bl && (match bZ P t with|some m=>Nat.beq m (aG b).length|none=>false) with
   |true=>match Nat.ble (j+(aG b).length) row.length with
    |true=>jR (kO row j (aG b)) fun aM=>match S with|⟨g,x⟩=>some ⟨aX g k (some (.arr sz [aM] 0 ex)),x⟩
    |false=>none
   |false=>none
  |_=>none
 |_=>none
theorem sM {P:Program}{S S':aa}{t:TypeId}{b x:AV}(h:sL P S t b x=some S'):kV P S t b x=some S':=by
 unfold sL at h
 split at h
 ·rename_i k sz j
  split at h
  ·rename_i sz' row ex hk
   split at h
   ·rename_i hc
    split at h
    ·rename_i hl
     rw [lP] at h
     simp only [kV,hk]
     split
     ·simp only [List.getElem?_cons_zero,hl]
      exact h
     ·rename_i fS
      have:true=false:=hc.symm.trans fS
      cases this
    ·cases h
   ·cases h
  ·cases h
 ·cases h
def mF (P:Program) (o:Op) (α:AA) (S:aa):Option (AV × aa) :=
 match o with
 |.move x=>some (α.ev x,S)
 |.assign x=>some (α.ev x,S)
 |.pick c a b=>match α.ev c with
  |.v (.bool true)=>some (α.ev a,S)
  |.v (.bool false)=>some (α.ev b,S)
  |_=>none
 |.alloc e=>match b8 P e with
  |some z=>yu S (z.cells.toList.map a8)
  |none=>none
 |.box _ x=>match (aG (α.ev x)).all bl with
  |true=>yu S (aG (α.ev x))
  |false=>none
 |.build t parts=>match oF P t (parts.toList.map fun (i,x)=>(i,α.ev x)) with
  |some a=>some (a,S)
  |none=>none
 |.load t x=>match pc P S t (α.ev x) with
  |some a=>some (a,S)
  |none=>none
 |.buildSlice t len parts=>match eu P t with
  |some e=>match b8 P e,bZ P e with
   |some z,some m=>match Nat.ble (len*m) 16777216 && Nat.beq z.cells.size m && Nat.blt 0 m with
    |true=>match oh m (List.replicate len (z.cells.toList.map a8)) (parts.toList.map fun (i,x)=>(i,α.ev x)) with
     |some rows=>w9 rows fun rows=>some (.sl true rows,S)
     |none=>none
    |false=>none
   |_,_=>none
  |none=>none
 |.store t x b=>match sL P S t (α.ev b) (α.ev x) with
  |some S'=>some (.v undef,S')
  |none=>none
 |.unOp op _ x=>match op,α.ev x with
  |.not,.v (.bool true)=>some (.v (.bool false),S)
  |.not,.v (.bool false)=>some (.v (.bool true),S)
  |_,_=>none
 |.fieldAddr s x f=>match P.underlying s with
  |some (.struct fs)=>match fs[f]? with
   |some fd=>match bZ P fd.type with
    |some (_+1)=>match α.ev x with
     |.ip row=>some (.ip (row.drop fd.offset),S)
     |.pt k sz i j=>some (.pt k sz i (j+fd.offset),S)
     |_=>none
    |_=>none
   |none=>none
  |_=>none
 |.field t x f=>match P.underlying t with
  |some (.struct fs)=>match fs[f]? with
   |some fd=>match α.ev x with
    |.agg l=>match kr P fd.type l fd.offset with
     |some a=>some (a,S)
     |none=>none
    |_=>none
   |none=>none
  |_=>none
 |.extract x i=>match α.ev x with
  |.aC l=>match l[i]? with
   |some a=>some (a,S)
   |none=>none
  |_=>none
 |.makeFunc f first cap=>some (.fn f (first.toList.map α.ev) (cap.toList.map α.ev),S)
 |.nilCheck x=>match α.ev x with
  |.ip c=>some (.ip c,S)
  |.pt k sz i j=>some (.pt k sz i j,S)
  |_=>none
 |.call c=>match c.callee,c.argTypes.toList,c.args.toList with
  |.builtin .len,[t],[x]=>match lenOf P t (α.ev x) with
   |some m=>some (.v (.int .i64 (m:Int)),S)
   |none=>none
  |_,_,_=>none
 |_=>none
section
variable {P:Program}{w0:World}{rd:Bool}{n:Nat}{o:Op}{α:AA}{S S':aa}{r:AV}
theorem sN (h:mF P o α S=some (r,S')):aK P w0 o α S (nT r S'):=by
 have e:∀ {a:AV}{T:aa},some (a,T)=some (r,S')->a=r/\T=S':=fun h=>by injection h with h;injection h with h1 h2;exact⟨h1,h2⟩
 have e2:∀ {q:AV × aa},some q=some (r,S')->q.1=r/\q.2=S':=fun h=>by injection h with h;subst h;exact⟨rfl,rfl⟩
 cases o with
 |move x=>exact e h
 |assign x=>exact e h
 |pick c a b =>
  simp only [mF] at h
  simp only [aK]
  split at h
  ·rename_i hc;rw [hc];exact e h
  ·rename_i hc;rw [hc];exact e h
  ·cases h
 |alloc t =>
  simp only [mF] at h
  simp only [aK]
  split at h
  ·rename_i z hz;rw [hz];rw [mP] at h;exact e2 h
  ·cases h
 |box t x =>
  simp only [mF] at h
  simp only [aK]
  split at h
  ·rename_i hx;rw [hx];rw [mP] at h;exact e2 h
  ·cases h
 |buildSlice t len parts =>
  simp only [mF] at h
  simp only [aK]
  split at h
  ·rename_i el he
   split at h
   ·rename_i z m hz hs
    split at h
    ·rename_i hb
     split at h
     ·rename_i rows hr
      rw [zn] at h
      simp only [he,hz,hs,hb,hr]
      exact e h
     ·cases h
    ·cases h
   ·cases h
  ·cases h
 |build t parts =>
  simp only [mF] at h
  simp only [aK]
  split at h
  ·rename_i z hz;rw [hz];exact e h
  ·cases h
 |load t x =>
  simp only [mF] at h
  simp only [aK]
  split at h
  ·rename_i z hz;exact aL.mk hz (e h)
  ·cases h
 |store t x b =>
  simp only [mF] at h
  simp only [aK]
  split at h
  ·rename_i z hz;exact aL.mk (sM hz) (e h)
  ·cases h
 |unOp op t x =>
  simp only [mF] at h
  simp only [aK]
  split at h
  ·rename_i hc;rw [hc];exact e h
  ·rename_i hc;rw [hc];exact e h
  ·cases h
 |fieldAddr s x f =>
  simp only [mF] at h
  simp only [aK]
  split at h
  ·rename_i fs hu
   split at h
   ·rename_i fd hf
    split at h
    ·rename_i m hs
     split at h
     ·rename_i row hx;simp only [hu,hf,hs,hx];exact e h
     ·rename_i k sz i j hx;simp only [hu,hf,hs,hx];exact e h
     ·cases h
    ·cases h
   ·cases h
  ·cases h
 |field t x f =>
  simp only [mF] at h
  simp only [aK]
  split at h
  ·rename_i fs hu
   split at h
   ·rename_i fd hf
    split at h
    ·rename_i l hx
     split at h
     ·rename_i a ha;simp only [hu,hf,hx];exact aL.mk ha (e h)
     ·cases h
    ·cases h
   ·cases h
  ·cases h
 |extract x i =>
  simp only [mF] at h
  simp only [aK]
  split at h
  ·rename_i l hx
   split at h
   ·rename_i a ha;simp only [hx,ha];exact e h
   ·cases h
  ·cases h
 |makeFunc f first cap=>exact e h
 |nilCheck x =>
  simp only [mF] at h
  simp only [aK]
  split at h
  ·rename_i c hx;rw [hx];exact e h
  ·rename_i k sz i j hx;rw [hx];exact e h
  ·cases h
 |call c =>
  simp only [mF] at h
  simp only [aK]
  split at h
  ·rename_i t x hc ht hx
   split at h
   ·rename_i m hm
    rw [hc,ht,hx]
    exact aL.mk hm (e h)
   ·cases h
  ·cases h
 |_=>cases h
def e_ (ops:List Oper) (α:AA) (o:Oper):Option Bool :=
 match o.guard with
 |none=>some true
 |some (j,want)=>match Nn ops α j with
  |some (some true)=>some want
  |some (some false)=>some (!want)
  |some none=>some false
  |none=>none
def nF (d:Option Tmp) (α:AA) (r:AV):AA:=match d with|some d=>⟨aX α.tm d r,α.df⟩|none=>α
def m_ (P:Program) (n:Nat) (ops:List Oper):List Oper->AA->aa->List Oper × AA × aa
 |[],α,S=>([],α,S)
 |o::rest,α,S=>match ku n o.dst with
  |true=>match e_ ops α o with
   |some true=>match mF P o.op α S with
    |some (r,S')=>EV r fun r=>m_ P n ops rest (nF o.dst α r) S'
    |none=>(o::rest,α,S)
   |some false=>m_ P n ops rest (nF o.dst α (.v undef)) S
   |none=>(o::rest,α,S)
  |false=>(o::rest,α,S)
end
section
variable {P:Program}{w0:World}{rd:Bool}{n:Nat}{o:Oper}{α:AA}{S S':aa}{r:AV}{ops l rest:List Oper}{Q:AA->aa->Prop}
theorem mQ {d:Option Tmp}:nF d α r=α.put d r:=by cases d<;>rfl
def jh (P:Program) (w0:World) (n:Nat) (ops l:List Oper) (Q:AA->aa->Prop) (α:AA) (S:aa):Prop :=
 ∀ k,ops.drop k=l->∃ ag S',nG P w0 n ops.toArray (List.range' k l.length) α S ag S'/\Q ag S'
theorem drop_cons {k:Nat}(h:ops.drop k=o::rest):ops.toArray[k]?=some o/\ops.drop (k+1)=rest:=by
 refine⟨?_,?_⟩
 ·have:=congrArg (·[0]?) h
  simpa using this
 ·rw [<-List.drop_drop,h];rfl
theorem jh.nil (h:Q α S):jh P w0 n ops [] Q α S:=fun k _=>⟨α,S,fun F m A g a w Q hF hS hA hQ=>hQ a w g hS hA (Ext.refl ..),h⟩
theorem l4 (h:e_ ops α o=some true):o.guard=none\/∃ j want,o.guard=some (j,want)/\lO ops.toArray α j=some (some want):=by
 unfold e_ at h
 split at h
 ·rename_i hg;exact .inl hg
 ·rename_i j want hg
  have e:=sO (ops:=ops.toArray) (α:=α) (j:=j)
  split at h
  ·rename_i hy
   obtain rfl:=Option.some.inj h
   exact .inr ⟨j,_,hg,by rw [<-e];exact hy⟩
  ·rename_i hy
   cases want
   ·exact .inr ⟨j,_,hg,by rw [<-e];exact hy⟩
   ·cases h
  ·cases h
  ·cases h
theorem pW (h:e_ ops α o=some false):∃ (j:Nat) (want:Bool) (b:Option Bool),o.guard=some (j,want)/\lO ops.toArray α j=some b/\b ≠ some want:=by
 unfold e_ at h
 split at h
 ·cases h
 ·rename_i j want hg
  have e:=sO (ops:=ops.toArray) (α:=α) (j:=j)
  split at h
  ·rename_i hy
   obtain rfl:=Option.some.inj h
   exact⟨j,_,_,hg,by rw [<-e];exact hy,by simp⟩
  ·rename_i hy
   cases want
   ·cases h
   ·exact⟨j,_,_,hg,by rw [<-e];exact hy,by simp⟩
  ·rename_i hy
   exact⟨j,_,_,hg,by rw [<-e];exact hy,by simp⟩
  ·cases h
theorem jh.op (hd:ku n o.dst=true) (hw:e_ ops α o=some true) (h:aK P w0 o.op α S (nT r S')) (k:jh P w0 n ops rest Q (nF o.dst α r) S'):jh P w0 n ops (o::rest) Q α S:=by
 intro i hi
 obtain⟨h1,h2⟩:=drop_cons hi
 obtain⟨r1,S1,h3,rfl,rfl⟩:=sK (n:=n) h
 obtain⟨ag,T,h4,h5⟩:=k (i+1) h2
 rw [mQ] at h4
 refine⟨ag,T,?_,h5⟩
 refine nG.step h1 hd (fun g w a hA=>?_) h3 h4
 rcases l4 hw with hg|⟨j,want,hg,hy⟩
 ·simp [Region.wanted,hg]
 ·simp [Region.wanted,hg,kW hA hy]
theorem jh.skip (hd:ku n o.dst=true) (hw:e_ ops α o=some false) (k:jh P w0 n ops rest Q (nF o.dst α (.v undef)) S):jh P w0 n ops (o::rest) Q α S:=by
 intro i hi
 obtain⟨h1,h2⟩:=drop_cons hi
 obtain⟨ag,T,h4,h5⟩:=k (i+1) h2
 rw [mQ] at h4
 obtain⟨j,want,b,hg,hy,aP⟩:=pW hw
 refine⟨ag,T,fun F m A g a w Q hF hS hA hQ=>?_,h5⟩
 have vk:¬ Region.wanted o (yielded ops.toArray a.tmps)=true:=by simp [Region.wanted,hg,kW hA hy,aP]
 show wpOpsIn F m P ops.toArray Q (i::List.range' (i+1) rest.length) a w
 simp only [wpOpsIn,h1]
 rw [if_neg vk]
 exact⟨fun f _=>hF.1 f,h4 F m A g _ w Q hF hS (gV hA hd .v) hQ⟩
theorem jh.quiet:∀ {l l':List Oper}{α ag:AA}{S S':aa},m_ P n ops l α S=(l',ag,S')->jh P w0 n ops l' Q ag S'->jh P w0 n ops l Q α S
 |[],l',α,ag,S,S',h,k=>by
  simp only [m_,Prod.mk.injEq] at h
  obtain⟨rfl,rfl,rfl⟩:=h
  exact k
 |o::rest,l',α,ag,S,S',h,k=>by
  have stop:(o::rest,α,S)=(l',ag,S')->jh P w0 n ops (o::rest) Q α S:=fun h=>by
   simp only [Prod.mk.injEq] at h
   obtain⟨rfl,rfl,rfl⟩:=h
   exact k
  simp only [m_] at h
  split at h
  ·rename_i hd
   split at h
   ·rename_i hw
    split at h
    ·rename_i r T hq
     rw [AX] at h
     exact jh.op hd hw (sN hq) (jh.quiet h k)
    ·exact stop h
   ·rename_i hw
    exact jh.skip hd hw (jh.quiet h k)
   ·exact stop h
  ·exact stop h
def eP (P:Program) (w0:World) (n:Nat) (ops l:List Oper) (Q:AA->aa->Prop) (α:AA) (S:aa):Prop :=
 ∀ k,ops.drop k=l->∃ ag S',mE P w0 n ops.toArray (List.range' k l.length) α S ag S'/\Q ag S'
theorem eP.nil (h:Q α S):eP P w0 n ops [] Q α S:=fun k _=>⟨α,S,.nil α S,h⟩
theorem eP.op (hd:ku n o.dst=true) (hw:e_ ops α o=some true) (h:jI P w0 o.op α S (nT r S')) (k:eP P w0 n ops rest Q (nF o.dst α r) S'):eP P w0 n ops (o::rest) Q α S:=by
 intro i hi
 obtain⟨h1,h2⟩:=drop_cons hi
 obtain⟨r1,S1,h3,rfl,rfl⟩:=Uu (n:=n) h1 hd (l4 hw) h
 obtain⟨ag,T,h4,h5⟩:=k (i+1) h2
 rw [mQ] at h4
 exact⟨ag,T,.cons h3 h4,h5⟩
theorem eP.skip (hd:ku n o.dst=true) (hw:e_ ops α o=some false) (k:eP P w0 n ops rest Q (nF o.dst α (.v undef)) S):eP P w0 n ops (o::rest) Q α S:=by
 intro i hi
 obtain⟨h1,h2⟩:=drop_cons hi
 obtain⟨ag,T,h4,h5⟩:=k (i+1) h2
 rw [mQ] at h4
 obtain⟨j,want,b,hg,hy,aP⟩:=pW hw
 exact⟨ag,T,.cons ⟨o,h1,hd,.inl ⟨j,want,b,hg,hy,aP,rfl,rfl⟩⟩ h4,h5⟩
theorem Uv {op:Op}(h:mF P op α S=some (r,S')):jI P w0 op α S (nT r S'):=by
 have h1:=sN (w0:=w0) h
 cases op with
 |call c =>
  simp only [jI]
  split
  ·rename_i f hc
   simp only [mF,hc] at h
   cases h
  ·exact h1
 |_=>exact h1
theorem eP.quiet:∀ {l l':List Oper}{α ag:AA}{S S':aa},m_ P n ops l α S=(l',ag,S')->eP P w0 n ops l' Q ag S'->eP P w0 n ops l Q α S
 |[],l',α,ag,S,S',h,k=>by
  simp only [m_,Prod.mk.injEq] at h
  obtain⟨rfl,rfl,rfl⟩:=h
  exact k
 |o::rest,l',α,ag,S,S',h,k=>by
  have stop:(o::rest,α,S)=(l',ag,S')->eP P w0 n ops (o::rest) Q α S:=fun h=>by
   simp only [Prod.mk.injEq] at h
   obtain⟨rfl,rfl,rfl⟩:=h
   exact k
  simp only [m_] at h
  split at h
  ·rename_i hd
   split at h
   ·rename_i hw
    split at h
    ·rename_i r T hq
     rw [AX] at h
     exact eP.op hd hw (Uv hq) (eP.quiet h k)
    ·exact stop h
   ·rename_i hw
    exact eP.skip hd hw (eP.quiet h k)
   ·exact stop h
  ·exact stop h
end
inductive It where
 |seq (c:Code)
 |nU (id:Nat)
inductive Cf where
 |run (c:Code) (K:List It)
 |out (ex:Exit) (K:List It)
 |aR (ops l:List Oper) (K:List It)
 |dr (ops l:List Oper) (K:List It)
section
variable (P:Program) (w0:World) (rd:Bool) (n:Nat)
def Wp (c:Code) (Q:Exit->AA->aa->Prop) (α:AA) (S:aa):Prop:=∃ ex ag S',bI P w0 rd n c α S ex ag S'/\Q ex ag S'
def cont (Q:Exit->AA->aa->Prop):List It->Exit->AA->aa->Prop
 |[]=>Q
 |.seq b::K=>fun ex α S=>match ex with|.normal=>Wp P w0 rd n b (cont Q K) α S|e=>cont Q K e α S
 |.nU id::K=>fun ex α S=>match ex with|.exit j=>(match Nat.beq j id with|true=>cont Q K .normal α S|false=>cont Q K (.exit j) α S)|e=>cont Q K e α S
def DF (Q:Exit->AA->aa->Prop):Cf->AA->aa->Prop
 |.run c K,α,S=>Wp P w0 rd n c (cont P w0 rd n Q K) α S
 |.out ex K,α,S=>cont P w0 rd n Q K ex α S
 |.aR ops l K,α,S=>jh P w0 n ops l (fun α S=>cont P w0 rd n Q K .normal α S) α S
 |.dr ops l K,α,S=>eP P w0 n ops l (fun α S=>cont P w0 rd n Q K .normal α S) α S
def mv:Cf->AA->aa->Option (Cf × AA × aa)
 |.run c K,α,S=>match c with
  |.skip=>some (.out .normal K,α,S)
  |.region _ ops false=>some (.aR ops.toList ops.toList K,α,S)
  |.seq a b=>some (.run a (.seq b::K),α,S)
  |.cond c a b=>match α.ev c with
   |.v (.bool true)=>some (.run a K,α,S)
   |.v (.bool false)=>some (.run b K,α,S)
   |_=>none
  |.block id c=>some (.run c (.nU id::K),α,S)
  |.exit id=>some (.out (.exit id) K,α,S)
  |.ret=>some (.out .ret K,α,S)
  |_=>none
 |.out ex K,α,S=>match K with
  |[]=>none
  |.seq b::K=>match ex with
   |.normal=>some (.run b K,α,S)
   |e=>some (.out e K,α,S)
  |.nU id::K=>match ex with
   |.exit j=>match Nat.beq j id with
    |true=>some (.out .normal K,α,S)
    |false=>some (.out (.exit j) K,α,S)
   |e=>some (.out e K,α,S)
 |.aR ops l K,α,S=>match m_ P n ops l α S with
  |([],ag,S')=>some (.out .normal K,ag,S')
  |(_::_,_,_)=>none
 |.dr ops l K,α,S=>match m_ P n ops l α S with
  |([],ag,S')=>some (.out .normal K,ag,S')
  |(_::_,_,_)=>none
end
section
variable {P:Program}{w0:World}{rd:Bool}{n:Nat}{α ag:AA}{S S':aa}{Q Q':Exit->AA->aa->Prop}{c a b:Code}{ex:Exit}
theorem Wp.of (h:bI P w0 rd n c α S ex ag S') (k:Q ex ag S'):Wp P w0 rd n c Q α S:=⟨_,_,_,h,k⟩
theorem Wp.seq (h:Wp P w0 rd n a (fun ex α S=>match ex with|.normal=>Wp P w0 rd n b Q α S|e=>Q e α S) α S):Wp P w0 rd n (.seq a b) Q α S:=by
 obtain⟨ex,bG,bR,h1,h2⟩:=h
 cases ex with
 |normal =>
  obtain⟨ex',ag,S',h3,h4⟩:=h2
  exact⟨ex',ag,S',bI.seq h1 h3,h4⟩
 |_=>exact⟨_,bG,bR,bI.Qs h1 (by simp),h2⟩
theorem Wp.cond {o:Operand}{t:Bool}(ho:α.ev o=.v (.bool t)) (h:Wp P w0 rd n (if t then a else b) Q α S):Wp P w0 rd n (.cond o a b) Q α S:=by
 obtain⟨ex,ag,S',h1,h2⟩:=h
 exact⟨ex,ag,S',bI.cond ho h1,h2⟩
theorem Wp.block {id:Nat}(h:Wp P w0 rd n c (fun ex α S=>match ex with|.exit j=>(match Nat.beq j id with|true=>Q .normal α S|false=>Q (.exit j) α S)|e=>Q e α S) α S):Wp P w0 rd n (.block id c) Q α S:=by
 obtain⟨ex,ag,S',h1,h2⟩:=h
 cases ex with
 |exit j =>
  simp only at h2
  split at h2
  ·rename_i hj
   have:=Nat.eq_of_beq_eq_true hj
   subst this
   exact⟨_,ag,S',bI.EW h1,h2⟩
  ·rename_i hj
   have aP:j ≠ id:=fun e=>by subst e;rw [Nat.beq_refl] at hj;cases hj
   exact⟨_,ag,S',bI.block h1 (fun e=>aP (by injection e)),h2⟩
 |_=>exact⟨_,ag,S',bI.block h1 (by simp),h2⟩
theorem eP.wp {id:Nat}{ops:Array Oper}(mD:(P.follows .mixedOrders && w6 ops)=true) (h:eP P w0 n ops.toList ops.toList (fun α S=>Q .normal α S) α S):Wp P w0 rd n (.region id ops true) Q α S:=by
 simp only [Bool.and_eq_true] at mD
 obtain⟨ag,S',h1,h2⟩:=h 0 rfl
 rw [Array.length_toList,<-List.range_eq_range'] at h1
 exact⟨_,ag,S',bI.draw mD.1 mD.2 h1,h2⟩
end
section
variable {P:Program}{w0:World}{rd:Bool}{n:Nat}{α ag:AA}{S S':aa}{Q:Exit->AA->aa->Prop}{c a b:Code}{ex:Exit}{K:List It}{r:AV}{ops rest:List Oper}{o:Oper}
theorem DF.op (hd:ku n o.dst=true) (hw:e_ ops α o=some true) (h:aK P w0 o.op α S (nT r S')) (k:DF P w0 rd n Q (.aR ops rest K) (nF o.dst α r) S'):DF P w0 rd n Q (.aR ops (o::rest) K) α S:=jh.op hd hw h k
def Uw (P:Program) (w0:World) (rd:Bool) (n:Nat) (I:Nat->AA->aa->Prop) (Q:Exit->AA->aa->Prop) (K:List It) (k:Nat):Exit->AA->aa->Prop :=
 fun ex α S=>match ex with|.normal=>∃ j,j < k/\I j α S|e=>DF P w0 rd n Q (.out e K) α S
theorem DF.next {I:Nat->AA->aa->Prop}{k:Nat}(j:Nat) (hj:j < k) (h:I j α S):DF P w0 rd n (Uw P w0 rd n I Q K k) (.out .normal []) α S:=⟨j,hj,h⟩
def EX:Exit->Bool|.normal=>true|.ret=>true|_=>false
end
def bC (i:Int):Value:=.int .i64 i
def fJ:List (Value × AV)->Int->Option Nat
 |[],_=>none
 |p::es,i=>match p.1 with
  |.int _ n=>match decide (n=i) with|true=>some 0|false=>(fJ es i).map (·+1)
  |_=>(fJ es i).map (·+1)
def lu (es:List (Value × AV)) (i:Int):Option AV:=match fJ es i with|some j=>(es[j]?).map (·.2)|none=>none
def pX (es:List (Value × AV)) (i:Int) (b:AV):List (Value × AV):=match fJ es i with|some j=>es.set j (bC i,b)|none=>es++[(bC i,b)]
def yv (es:List (Value × AV)) (i:Int):List (Value × AV):=match fJ es i with|some j=>es.eraseIdx j|none=>es
def ji (es:List (Value × AV)):Prop:=∀ p ∈ es,∃ n,p.1=bC n
theorem oz:∀ {es:List (Value × AV)}{i:Int}{j:Nat},ji es->fJ es i=some j->∃ a,es[j]?=some (bC i,a)
 |[],i,j,_,h=>by cases h
 |p::es,i,j,hk,h=>by
  obtain⟨n,hn⟩:=hk p (by simp)
  simp only [fJ,hn,bC] at h
  split at h
  ·rename_i e
   obtain rfl:=of_decide_eq_true e
   obtain rfl:=Option.some.inj h
   exact⟨p.2,by rw [List.getElem?_cons_zero,<-hn]⟩
  ·cases hx:fJ es i with
   |none=>rw [hx] at h;cases h
   |some j' =>
    rw [hx] at h
    obtain rfl:=Option.some.inj h
    obtain⟨a,ha⟩:=oz (fun q hq=>hk q (by simp [hq])) hx
    exact⟨a,by simpa using ha⟩
theorem w_ {kk:IntKind}{i:Int}:∀ {es:List (Value × AV)}{L:List MapEntry}{o:Nat},ji es->L.length=es.length->(∀ (j:Nat) (k:Value) (a:AV) (e:MapEntry),es[j]?=some (k,a)->L[j]?=some e->e.key=k) ->
  Instr.findNow (.int kk) (bC i) L o=some (match fJ es i with|some j=>(L[j]?).map fun e=>(j+o,e.val)|none=>none)
 |[],[],o,_,_,_=>rfl
 |p::es,e::L,o,hk,hl,h=>by
  obtain⟨n,hn⟩:=hk p (by simp)
  have RD:e.key=bC n:=by rw [h 0 p.1 p.2 e rfl rfl,hn]
  simp only [Instr.findNow,RD,bC,Instr.sameNow,if_true,fJ,hn]
  by_cases c:n=i
  ·subst c
   simp
  ·have c':¬ i=n:=fun e=>c e.symm
   simp only [c,decide_false,beq_eq_false_iff_ne.2 c']
   have ih:=w_ (kk:=kk) (i:=i) (es:=es) (L:=L) (o:=o+1) (fun q hq=>hk q (by simp [hq])) (by simpa using hl) (fun j k a e' h1 h2=>h (j+1) k a e' (by simpa using h1) (by simpa using h2))
   simp only [bC] at ih
   rw [ih]
   congr 1
   cases fJ es i with
   |none=>rfl
   |some j=>simp only [Option.map_some,List.getElem?_cons_succ];congr 1;funext x;congr 1;omega
 |[],_::_,_,_,hl,_=>by simp at hl
 |_::_,[],_,_,hl,_=>by simp at hl
section
variable {P:Program}{w0:World}{n:Nat}{o:Oper}{α:AA}{S S':aa}{r:AV}
theorem kX {g:Gh}{w:World}{k:Nat}{v:Value}(h:aA g w (.mp k) v):v=.map (some (g.ob k))/\g.al k:=by
 cases h with
 |mp hk=>exact⟨rfl,hk⟩
theorem run_checkKey {kt:TypeId}{kk:IntKind}{w:World}(h:P.underlying kt=some (.int kk)) (b:Bool) (i:Int):(Instr.checkKey b 10000 kt (bC i)).run P w=.ok () w:=by
 rw [show (10000:Nat)=9999+1 from rfl,Instr.checkKey]
 simp [run_underlying h,bC,Sem.run_bind]
theorem run_findKey {kt:TypeId}{kk:IntKind}{w:World}{i:Int}{L:List MapEntry}{x:Option (Nat × Value)}(h:P.underlying kt=some (.int kk)) (hx:Instr.findNow (.int kk) (bC i) L 0=some x):(Instr.findKey kt (bC i) L).run P w=.ok x w:=by
 simp only [Instr.findKey,Sem.run_bind,run_underlying h,Result.andThen_ok,hx,Sem.run_pure]
theorem dg {w:World}{b:Nat}{es:Array MapEntry}{clock:Nat}(h:w.heap[b]?=some (.map es clock)):(getObj b).run P w=.ok (.map es clock) w:=by
 simp [getObj,Sem.run,h]
theorem sP {g:Gh}{w:World}{es:List (Value × AV)}{entries:Array MapEntry}(aZ:entries.size=es.length) (he:∀ (i:Nat) (k:Value) (a:AV),es[i]?=some (k,a)->∃ e:MapEntry,entries[i]?=some e/\e.key=k/\aA g w a e.val) (hk:ji es) {kk:IntKind}(i:Int) :
  Instr.findNow (.int kk) (bC i) entries.toList 0=some (match fJ es i with|some j=>(entries[j]?).map fun e=>(j,e.val)|none=>none):=by
 have h:=w_ (kk:=kk) (i:=i) (es:=es) (L:=entries.toList) (o:=0) hk (by simpa using aZ) (fun j k a e h1 h2=>by
  obtain⟨e',h3,h4,_⟩:=he j k a h1
  rw [Array.getElem?_toList,h3] at h2
  rw [<-Option.some.inj h2];exact h4)
 simpa using h
theorem sQ {t kt et:TypeId}{kk:IntKind}{x i:Operand}{k:Nat}{es:List (Value × AV)}{z:Value}{m:Int}{c:Bool}(ho:o.op=.lookup t x i c) (ht:P.underlying t=some (.map kt et)) (kY:P.underlying kt=some (.int kk)) (hz:b8 P et=some z)
  (hx:α.ev x=.mp k) (hE:∀ (A:Nat->Prop) (g:Gh) (w:World),St w0 A g S w->g.al k->∃ (entries:Array MapEntry) (clock:Nat),w.heap[g.ob k]?=some (.map entries clock)/\entries.size=es.length/\∀ (i:Nat) (k:Value) (a:AV),es[i]?=some (k,a)->∃ e:MapEntry,entries[i]?=some e/\e.key=k/\aA g w a e.val) (hk:ji es) (hi:α.ev i=.v (bC m)):aI P w0 n o α S (match lu es m with|some a=>(if c then .aC [a,.v (.bool true)] else a)|none=>(if c then .aC [lift z,.v (.bool false)] else lift z)) S:=by
 refine aI.quiet fun A g q w b_ hA=>?_
 have h1:=hA.ev x
 have h2:=hA.ev i
 rw [hx] at h1
 rw [hi] at h2
 obtain⟨e1,aH⟩:=kX h1
 have e2:=bg h2
 obtain⟨entries,clock,p1,p2,p3⟩:=hE A g w b_ aH
 have hf:=sP p2 p3 hk (kk:=kk) m
 obtain⟨inf,aej,nV⟩:∃ inf,P.info? et=some inf/\inf.zero=some z:=by
  unfold b8 at hz
  cases hp:P.info? et with
  |none=>rw [hp] at hz;cases hz
  |some inf=>rw [hp] at hz;exact⟨inf,rfl,hz⟩
 have fin:∀ (v:Value) (b:Bool) (a:AV),aA g w a v->aA g w (if c then .aC [a,.v (.bool b)] else a) (if c then .tuple #[v,.bool b] else v):=by
  intro v b a hr
  cases c with
  |false=>exact hr
  |true =>
   refine .aC rfl fun i y x hy hx=>?_
   match i with
   |0=>simp at hy hx;subst hy hx;exact hr
   |1=>simp at hy hx;subst hy hx;exact .v
   |i+2=>simp at hy
 unfold lu
 cases hj:fJ es m with
 |none =>
  rw [hj] at hf
  refine⟨_,?_,fin z false (lift z) (oG z)⟩
  simp only [execOp,ho,e1,e2,Instr.lookup,Sem.run_bind,run_underlying ht,Result.andThen_ok,dg p1,Sem.run_pure,run_checkKey kY,run_findKey kY hf,iX hz]
 |some j =>
  obtain⟨a,ha⟩:=oz hk hj
  obtain⟨e,q1,q2,q3⟩:=p3 j _ a ha
  rw [hj] at hf
  simp only [q1,Option.map_some] at hf
  simp only [ha,Option.map_some]
  refine⟨_,?_,fin e.val true a q3⟩
  simp only [execOp,ho,e1,e2,Instr.lookup,Sem.run_bind,run_underlying ht,Result.andThen_ok,dg p1,Sem.run_pure,run_checkKey kY,run_findKey kY hf]
theorem KC {t kt et:TypeId}{kk:IntKind}{x i:Operand}{k:Nat}{es:List (Value × AV)}{z:Value}{m:Int}{c:Bool}(ho:o.op=.lookup t x i c) (ht:P.underlying t=some (.map kt et)) (kY:P.underlying kt=some (.int kk)) (hz:b8 P et=some z)
  (hx:α.ev x=.mp k) (hS:S.get k=some (.mp es)) (hk:ji es) (hi:α.ev i=.v (bC m)):aI P w0 n o α S (match lu es m with|some a=>(if c then .aC [a,.v (.bool true)] else a)|none=>(if c then .aC [lift z,.v (.bool false)] else lift z)) S :=
 sQ ho ht kY hz hx (fun A g w b_ aH=>(b_.bj k _ hS aH).2.2) hk hi
theorem St.qq {A:Nat->Prop}{g:Gh}{w:World}{k:Nat}{es es':List (Value × AV)}{entries entries':Array MapEntry}{clock clock':Nat}(hS:St w0 A g S w) (hk:S.get k=some (.mp es)) (ha:g.al k) (hm:w.heap[g.ob k]?=some (.map entries clock))
  (aZ:entries'.size=es'.length) (he:∀ (i:Nat) (k:Value) (a:AV),es'[i]?=some (k,a)->∃ e:MapEntry,entries'[i]?=some e/\e.key=k/\aA g w a e.val) :
  ∃ w',(setObj (g.ob k) (.map entries' clock')).run P w=.ok () w'/\St w0 A g (S.set k (some (.mp es'))) w'/\Ext A g w g w':=by
 have aB:=(hS.bj k _ hk ha).2.1
 have om:({ w with heap:=w.heap.setIfInBounds (g.ob k) (.map entries' clock') }:World).heap[g.ob k]?=some (.map entries' clock'):=by simp [Array.getElem?_setIfInBounds,aB]
 obtain⟨h1,h2⟩:=hS.putObj (ob:=.mp es') hk ha (fun J=>⟨by simp,by simp⟩) (x':=.map entries' clock') rfl (fun q=>by simp only [World.cell?,om,hm]) (fun hL hb=>⟨entries',clock',hb,aZ,fun i key a hi=>by
  obtain⟨e,q1,q2,q3⟩:=he i key a hi
  exact⟨e,q1,q2,q3.later hL⟩⟩)
 exact⟨_,by simp [setObj,Sem.run,hm],h2,h1⟩
theorem IY {t:TypeId}(ho:o.op=.makeMap t none):aI P w0 n o α S (.mp S.nx) (S.new (.mp [])):=by
 intro A g q w hS hA
 obtain⟨h1,h2⟩:=hS.new (.map #[] 0) (.mp []) 0 (fun J=>by simp) (fun hL=>⟨#[],0,ct,rfl,fun i k a h=>by simp at h⟩)
 have hr:=aA.mp (g:=g.new S.nx w.heap.size 0) (w:=w.alloc (.map #[] 0)) (k:=S.nx) (.inr rfl)
 rw [show (g.new S.nx w.heap.size 0).ob S.nx=w.heap.size from ah _ _ _] at hr
 refine⟨_,_,_,.inl ?_,hr,h2,h1⟩
 simp [execOp,ho,Instr.makeMap,newObj,Sem.run]
theorem EY {t kt et:TypeId}{x:Operand}{kk:IntKind}{m:Int}(ho:o.op=.makeMap t (some x)) (ht:P.underlying t=some (.map kt et)) (hx:α.ev x=.v (.int kk m)):aI P w0 n o α S (.mp S.nx) (S.new (.mp [])):=by
 intro A g q w hS hA
 have h0:=hA.ev x
 rw [hx] at h0
 have e0:=bg h0
 obtain⟨h1,h2⟩:=hS.new (.map #[] 0) (.mp []) 0 (fun J=>by simp) (fun hL=>⟨#[],0,ct,rfl,fun i k a h=>by simp at h⟩)
 have hr:=aA.mp (g:=g.new S.nx w.heap.size 0) (w:=w.alloc (.map #[] 0)) (k:=S.nx) (.inr rfl)
 rw [show (g.new S.nx w.heap.size 0).ob S.nx=w.heap.size from ah _ _ _] at hr
 refine⟨_,_,_,.inl ?_,hr,h2,h1⟩
 simp [execOp,ho,Instr.makeMap,newObj,Sem.run,e0,run_underlying ht,asInt,asIntOf]
theorem AY {t kt et:TypeId}{kk:IntKind}{x i y:Operand}{k:Nat}{es:List (Value × AV)}{m:Int}{b:AV}(ho:o.op=.mapUpdate t x i y) (ht:P.underlying t=some (.map kt et)) (kY:P.underlying kt=some (.int kk))
  (hx:α.ev x=.mp k) (hS:S.get k=some (.mp es)) (hk:ji es) (hi:α.ev i=.v (bC m)) (hy:α.ev y=b):aI P w0 n o α S (.v undef) (S.set k (some (.mp (pX es m b)))):=by
 intro A g q w b_ hA
 have h1:=hA.ev x
 have h2:=hA.ev i
 have h3:=hA.ev y
 rw [hx] at h1
 rw [hi] at h2
 rw [hy] at h3
 obtain⟨e1,aH⟩:=kX h1
 have e2:=bg h2
 obtain⟨v,hv⟩:∃ v,q.eval y=v:=⟨_,rfl⟩
 rw [hv] at h3
 obtain⟨_,_,entries,clock,p1,p2,p3⟩:=b_.bj k _ hS aH
 have hf:=sP p2 p3 hk (kk:=kk) m
 have hlen:entries.toList.length=entries.size:=Array.length_toList
 unfold pX
 cases hj:fJ es m with
 |none =>
  rw [hj] at hf
  obtain⟨w',q1,q2,q3⟩:=b_.qq (P:=P) hS aH p1 (entries':=entries.push { key:=bC m,val:=v,born:=clock }) (clock':=clock+1) (es':=es++[(bC m,b)]) (by simp [p2]) (fun i key a hi=>by
   by_cases c:i < es.length
   ·rw [List.getElem?_append_left c] at hi
    obtain⟨e,r1,r2,r3⟩:=p3 i key a hi
    exact⟨e,by rw [Array.getElem?_push_lt (by omega)];rw [Array.getElem?_eq_getElem (by omega)] at r1;exact r1,r2,r3⟩
   ·rw [List.getElem?_append_right (by omega)] at hi
    have AZ:i=es.length:=by
     have:=(List.getElem?_eq_some_iff.1 hi).1
     simp at this;omega
    subst AZ
    simp at hi
    obtain⟨rfl,rfl⟩:=hi
    exact⟨{ key:=bC m,val:=v,born:=clock },by rw [<-p2];simp,rfl,h3⟩)
  refine⟨undef,w',g,.inr ⟨?_,rfl⟩,.v,q2,q3⟩
  simp only [execOp,ho,e1,e2,hv,Instr.mapUpdate,Sem.run_bind,run_underlying ht,Result.andThen_ok,dg p1,run_checkKey kY,run_findKey kY hf,q1,Sem.run_pure]
 |some j =>
  obtain⟨a,ha⟩:=oz hk hj
  obtain⟨e,r1,r2,r3⟩:=p3 j _ a ha
  rw [hj] at hf
  simp only [r1,Option.map_some] at hf
  have eJ:j < entries.size:=(Array.getElem?_eq_some_iff.1 r1).1
  obtain⟨w',q1,q2,q3⟩:=b_.qq (P:=P) hS aH p1 (entries':=entries.modify j fun e=>{ e with key:=bC m,val:=v }) (clock':=clock) (es':=es.set j (bC m,b)) (by simp [p2]) (fun i key a' hi=>by
   rw [List.getElem?_set] at hi
   by_cases c:j=i
   ·subst c
    rw [if_pos rfl,if_pos (by omega)] at hi
    simp only [Option.some.injEq,Prod.mk.injEq] at hi
    obtain⟨rfl,rfl⟩:=hi
    exact⟨{ e with key:=bC m,val:=v },by rw [Array.getElem?_modify,if_pos rfl,r1];rfl,rfl,h3⟩
   ·rw [if_neg c] at hi
    obtain⟨e',s1,s2,s3⟩:=p3 i key a' hi
    exact⟨e',by rw [Array.getElem?_modify,if_neg c];exact s1,s2,s3⟩)
  refine⟨undef,w',g,.inr ⟨?_,rfl⟩,.v,q2,q3⟩
  have jS:(Instr.keyThatStays (((entries[j]?).map (·.key)).getD (bC m)) (bC m)).run P w=.ok (bC m) w:=by
   rw [r1]
   simp [Instr.keyThatStays,r2,Instr.sameBits,bC]
  simp only [execOp,ho,e1,e2,hv,Instr.mapUpdate,Sem.run_bind,run_underlying ht,Result.andThen_ok,dg p1,run_checkKey kY,run_findKey kY hf,jS,q1,Sem.run_pure]
end
end Go.Proofs.YtgjfgekaclobaaaGreat
