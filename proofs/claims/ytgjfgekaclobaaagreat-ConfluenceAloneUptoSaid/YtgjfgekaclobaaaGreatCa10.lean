import Derived.Test.YtgjfgekaclobaaaGreatCa9
namespace Go.Proofs.YtgjfgekaclobaaaGreat
set_option linter.unusedVariables false
set_option linter.unusedSimpArgs false
open Go.RowKit
structure QI where
 d:Option Nat
 g:Option (Nat × Bool)
 q:dp
inductive QC where
 |skip
 |aU (dr:Bool) (l:List QI)
 |dB (V:List (Nat × Nat)) (l:List QI)
 |seq (a b:QC)
 |cond (x:QO) (a b:QC)
 |block (id:Nat) (a:QC)
 |scope (a:QC)
 |loop (a:QC)
 |exit (id:Nat)
 |ret
 |uP (x:QO) (ps:List Nat) (a b:QC)
 |raw (c:Code)
def lF (T:Tables) (n:Nat) (ops:List Oper):List Oper->Option (List QI)
 |[]=>some []
 |o::l=>match nv n o.dst,res T o.op,lF T n ops l with
  |true,some q,some l'=>match o.guard with
   |none=>some (⟨o.dst,none,q⟩::l')
   |some (j,want)=>match uQ ops j with
    |some t=>some (⟨o.dst,some (t,want),q⟩::l')
    |none=>none
  |_,_,_=>none
def Qk (ops:Array Oper):Bool:=ops.toList.any fun o=>match o.op with
 |.call c=>match c.callee,c.args.toList with
  |.builtin .append,.tmp t::_=>ops.toList.any fun p=>(match p.dst with|some d=>Nat.beq d t|none=>false) && (match p.op with|.call c=>(match c.callee with|.value _=>true|_=>false)|_=>false)
  |_,_=>false
 |_=>false
def XF (ops:Array Oper):Bool:=ops.toList.any fun o=>match o.op with
 |.call c=>match c.callee with
  |.value (.tmp _)=>true
  |_=>false
 |_=>false
def XG (ops:Array Oper):Bool:=AU ops && !(Qk ops || XF ops)
def acV (T:Tables) (t:TypeId):Bool:=match eG T t with
 |some (.pointer e)=>match eG T e with
  |some (.struct fs)=>Nat.ble 2 (fs.toList.filter fun f=>match eG T f.type with|some (.map _ _)|some (.slice _)=>true|_=>false).length
  |_=>false
 |_=>false
def Ql (T:Tables) (ops:Array Oper):Bool:=ops.toList.any fun o=>match o.op with
 |.call c=>match c.callee,c.argTypes.toList with
  |.value _,t::_=>acV T t
  |_,_=>false
 |_=>false
def yC (T:Tables) (ops:Array Oper):Bool:=XG ops && !Ql T ops
def comp (T:Tables) (n:Nat):Code->Option QC
 |.skip=>some .skip
 |.label _=>some .skip
 |.region id ops dr=>match lF T n ops.toList ops.toList with
  |some l=>match dr with
   |false=>some (.aU false l)
   |true=>match yC T ops with
    |true=>some (.aU true l)
    |false=>some (.dB (uS ops) l)
  |none=>some (.raw (.region id ops dr))
 |.seq a b=>match comp T n a,comp T n b with
  |some a',some b'=>some (.seq a' b')
  |_,_=>none
 |.cond c a b=>match comp T n a,comp T n b with
  |some a',some b'=>some (.cond (qo c) a' b')
  |_,_=>none
 |.block id a=>match comp T n a with
  |some a'=>some (.block id a')
  |none=>none
 |.scope a=>match comp T n a with
  |some a'=>some (.scope a')
  |none=>none
 |.loop a=>match comp T n a with
  |some a'=>some (.loop a')
  |none=>none
 |.exit id=>some (.exit id)
 |.ret=>some .ret
 |.rangeFunc f ps a b=>match comp T n a,comp T n b with
  |some a',some b'=>some (.uP (qo f) ps.toList a' b')
  |_,_=>none
 |c=>some (.raw c)
def cI (P:Program):Code->Bool
 |.region _ ops true=>P.follows .mixedOrders && (yC P.toTables ops || o5 ops)
 |.seq a b=>cI P a && cI P b
 |.cond _ a b=>cI P a && cI P b
 |.block _ a=>cI P a
 |.scope a=>cI P a
 |.loop a=>cI P a
 |.rangeFunc _ _ a b=>cI P a && cI P b
 |_=>true
inductive fc where
 |seq (c:QC)
 |oS (id:Nat)
 |wj
inductive QF where
 |run (c:QC) (K:List fc)
 |out (ex:Exit) (K:List fc)
 |aU (dr:Bool) (l:List QI) (K:List fc)
 |dB (B:Nat) (V:List (Nat × Nat)) (lg:List (List Nat × List Nat × Bool)) (rs:List Nat) (l:List QI) (K:List fc)
def wo (lg:List (List Nat × List Nat × Bool)) (i:Nat):List Nat × List Nat × Bool:=lg.getD i ([],[],false)
def iA:List QI->Nat->List Nat
 |[],_=>[]
 |i::l,x=>match i.q with|.alloc _=>x::iA l (x+1)|_=>iA l x
def Ij (G:Nat->Option Ob):List Nat->Nat->Option Ob
 |[]=>G
 |k::ks=>a8 (Ij G ks) k (some .un)
def uT (S:ad) (l:List QI):ad:=match S with|⟨G,x⟩=>⟨Ij G (iA l x),x+(iA l x).length⟩
def YW (V:List (Nat × Nat)) (lg:List (List Nat × List Nat × Bool)):Bool:=V.all fun p=>dj (wo lg p.1) (wo lg p.2)
section
variable (P:Program) (w0:World) (rd:Bool) (n:Nat)
def gG (b:QC) (Q:Exit->AA->ad->Prop) (α:AA) (S:ad):Prop:=∀ c,comp P.toTables n c=some b->cI P c=true->Wp P w0 rd n c Q α S
def db (Q:Exit->AA->ad->Prop):List fc->Exit->AA->ad->Prop
 |[]=>Q
 |.seq b::K=>fun ex α S=>match ex with|.normal=>gG P w0 rd n b (db Q K) α S|e=>db Q K e α S
 |.oS id::K=>fun ex α S=>match ex with|.exit j=>(match Nat.beq j id with|true=>db Q K .normal α S|false=>db Q K (.exit j) α S)|e=>db Q K e α S
 |.wj::K=>fun ex α S=>match ex with|.goto _=>False|e=>db Q K e α S
def Fc (ops:Array Oper) (l:List Nat) (α:AA) (S:ad) (ch:List PanicEntry) (aw:AA) (S':ad):Prop :=
 ∀ (F:Fence) (m:Nat) (A:Nat->Prop) (g:Gh) (a:Act) (w:World) (Q:Exit->Act->World->Prop),gU F->St w0 A g S w->bN g w n α a ->
  (∀ (a':Act) (w':World) (g':Gh),St w0 A g' S' w'->bN g' w' n aw a'->Ext A g w g' w'->Q (.panic ch) a' w')->wpOpsIn F m P ops Q l a w
def uU (ops l:List Oper) (Q:AA->ad->Prop) (E:List PanicEntry->AA->ad->Prop) (α:AA) (S:ad):Prop :=
 ∀ k,ops.drop k=l->(∃ aw S',qd P w0 n ops.toArray (List.range' k l.length) α S aw S'/\Q aw S')\/∃ ch aw S',Fc P w0 n ops.toArray (List.range' k l.length) α S ch aw S'/\E ch aw S'
def eH (dr:Bool) (l:List QI) (Q:AA->ad->Prop) (E:List PanicEntry->AA->ad->Prop) (α:AA) (S:ad):Prop :=
 ∀ ops rest,lF P.toTables n ops rest=some l->match dr with|false=>uU P w0 n ops rest Q E α S|true=>kJ P w0 n ops rest Q α S
def mZ (B:Nat) (V:List (Nat × Nat)) (lg:List (List Nat × List Nat × Bool)) (l:List QI) (Q:AA->ad->Prop) (α:AA) (S:ad):Prop :=
 ∀ ops:List Oper,lF P.toTables n ops (ops.drop lg.length)=some l->∃ (D:Nat->Dt) (aw:AA) (S':ad),iQ P w0 n ops.toArray B D (List.range' lg.length l.length) α S aw S'/\YW V (lg++(List.range' lg.length l.length).map fun i=>(D i).ns)=true/\Q aw S'
def aa (Q:Exit->AA->ad->Prop):QF->AA->ad->Prop
 |.run c K,α,S=>gG P w0 rd n c (db P w0 rd n Q K) α S
 |.out ex K,α,S=>db P w0 rd n Q K ex α S
 |.aU dr l K,α,S=>eH P w0 n dr l (fun α S=>db P w0 rd n Q K .normal α S) (fun ch α S=>db P w0 rd n Q K (.panic ch) α S) α S
 |.dB B V lg rs l K,α,S=>(∀ k ∈ rs,k < B)->B<=S.nx->mZ P w0 n B V lg l (fun α S=>db P w0 rd n Q K .normal α S) α S
def bD (f:Nat->AV):Option (Nat × Bool)->Option Bool
 |none=>some true
 |some (t,want)=>match f t with
  |.v (.bool true)=>some want
  |.v (.bool false)=>match want with|true=>some false|false=>some true
  |.v (.tuple _)=>some false
  |_=>none
def bS (d:Option Nat) (α:AA) (r:AV):AA:=match α,d with|⟨f,l⟩,some d=>⟨a8 f d r,l⟩|α,none=>α
def wq:QF->AA->ad->Option (QF × AA × ad)
 |.run c K,α,S=>match c with
  |.skip=>some (.out .normal K,α,S)
  |.aU false l=>some (.aU false l K,α,S)
  |.aU true l=>some (.aU true l K,α,S)
  |.dB V l=>match S with|⟨G,x⟩=>some (.dB (x+(iA l x).length) V [] (iA l x) l K,α,uT ⟨G,x⟩ l)
  |.seq a b=>some (.run a (.seq b::K),α,S)
  |.cond x a b=>match x.ev α.tm with
   |.v (.bool true)=>some (.run a K,α,S)
   |.v (.bool false)=>some (.run b K,α,S)
   |_=>none
  |.block id c=>some (.run c (.oS id::K),α,S)
  |.scope c=>some (.run c (.wj::K),α,S)
  |.exit id=>some (.out (.exit id) K,α,S)
  |.ret=>some (.out .ret K,α,S)
  |_=>none
 |.out ex K,α,S=>match K with
  |[]=>none
  |.seq b::K=>match ex with
   |.normal=>some (.run b K,α,S)
   |e=>some (.out e K,α,S)
  |.oS id::K=>match ex with
   |.exit j=>match Nat.beq j id with
    |true=>some (.out .normal K,α,S)
    |false=>some (.out (.exit j) K,α,S)
   |e=>some (.out e K,α,S)
  |.wj::K=>match ex with
   |.goto _=>none
   |e=>some (.out e K,α,S)
 |.aU dr l K,α,S=>match l with
  |[]=>some (.out .normal K,α,S)
  |i::l=>match bD α.tm i.g with
   |some true=>match iJ i.q α.tm S with
    |some (r,S')=>some (.aU dr l K,bS i.d α r,S')
    |none=>none
   |some false=>some (.aU dr l K,bS i.d α (.v undef),S)
   |none=>none
 |.dB B V lg rs l K,α,S=>match l with
  |[]=>match YW V lg with
   |true=>some (.out .normal K,α,S)
   |false=>none
  |i::l=>match bD α.tm i.g with
   |some true=>match dq i.q α.tm S rs with
    |some (r,d,nT)=>some (.dB B V (lg++[d.ns]) nT l K,bS i.d α r,cY S d.W d.m)
    |none=>none
   |some false=>some (.dB B V (lg++[([],[],false)]) rs l K,bS i.d α (.v undef),S)
   |none=>none
end
section
variable {P:Program}{w0:World}{rd:Bool}{n:Nat}{α aw:AA}{S S':ad}{Q Q':Exit->AA->ad->Prop}{ex:Exit}{r:AV}{i:QI}{l:List QI}{R:AA->ad->Prop}{E:List PanicEntry->AA->ad->Prop}
theorem o6 {d:Option Nat}:bS d α r=rA d α r:=by cases d<;>cases α<;>rfl
theorem lW {ops rest:List Oper}(h:lF P.toTables n ops rest=some (i::l)):∃ o kK,rest=o::kK/\lF P.toTables n ops kK=some l/\nv n o.dst=true/\o.dst=i.d/\res P.toTables o.op=some i.q /\
  (∀ b,bD α.tm i.g=some b->ig ops α o=some b):=by
 cases rest with
 |nil=>cases h
 |cons o kK =>
  simp only [lF] at h
  split at h
  ·rename_i q l' h1 h2 h3
   split at h
   ·rename_i hg
    injection h with h
    injection h with h4 h5
    subst h4 h5
    exact⟨o,kK,rfl,h3,h1,rfl,h2,fun b hb=>by simp only [bD,oI_] at hb;subst hb;simp only [ig,hg]⟩
   ·rename_i j want hg
    split at h
    ·rename_i t ht
     injection h with h
     injection h with h4 h5
     subst h4 h5
     refine⟨o,kK,rfl,h3,h1,rfl,h2,fun b hb=>?_⟩
     simp only [ig,hg,TD,ht]
     simp only [bD] at hb
     split at hb
     ·rename_i e;rw [e];exact hb
     ·rename_i e;rw [e];cases want<;>exact hb
     ·rename_i e;rw [e];exact hb
     ·cases hb
    ·cases h
  ·cases h
theorem eH.nil {dr:Bool}(h:R α S):eH P w0 n dr [] R E α S:=by
 intro ops rest hc
 have:rest=[]:=by
  cases rest with
  |nil=>rfl
  |cons o r =>
   simp only [lF] at hc
   repeat' split at hc
   all_goals cases hc
 subst this
 cases dr with
 |false=>exact fun k hk=>.inl (wu.nil (ops:=ops) h k hk)
 |true=>exact kJ.nil h
def Ik (P:Program) (w0:World) (n:Nat) (o:Oper) (α:AA) (S:ad) (r:AV) (S':ad):Prop :=
 ef P w0 n o (α.only (cB o)) S r S'/\(lX o.op=true->S'=S/\∀ S,ef P w0 n o (α.only (cB o)) S r S)/\(wv o.op=false->S'=S)
theorem Ik.ofD {o:Oper}(h:gm P w0 o.op α S (rB r S')):Ik P w0 n o α S r S':=by
 cases hp:lX o.op with
 |true =>
  obtain⟨r2,h1,h2⟩:=TE hp (ER h)
  obtain⟨rfl,rfl⟩:=h1
  have h3:∀ T,ef P w0 n o (α.only (cB o)) T r2 T:=fun T=>by
   obtain⟨r',S',h4,rfl,rfl⟩:=kL (n:=n) (h2 T)
   exact h4
  exact⟨h3 _,fun _=>⟨rfl,h3⟩,fun _=>rfl⟩
 |false =>
  cases hw:wv o.op with
  |false =>
   obtain⟨r2,h1,h2⟩:=TG hp hw h
   obtain⟨rfl,rfl⟩:=h1
   obtain⟨r',S',h4,rfl,rfl⟩:=kL (n:=n) h2
   exact⟨h4,fun h=>(by rw [hp] at h;cases h),fun _=>rfl⟩
  |true =>
   obtain⟨r2,S2,h1,rfl,rfl⟩:=kL (n:=n) (ER h)
   exact⟨h1,fun h=>(by rw [hp] at h;cases h),fun h=>(by rw [hw] at h;cases h)⟩
theorem kJ.opG {o:Oper}{rest ops:List Oper}{Q:AA->ad->Prop}(hd:nv n o.dst=true) (hw:ig ops α o=some true) (h:Ik P w0 n o α S r S') (k:kJ P w0 n ops rest Q (rA o.dst α r) S'):kJ P w0 n ops (o::rest) Q α S:=by
 intro i hi
 obtain⟨h1,h2⟩:=drop_cons hi
 obtain⟨aw,T,h4,h5⟩:=k (i+1) h2
 rw [qZ] at h4
 exact⟨aw,T,.cons ⟨o,h1,hd,.inr ⟨od hw,r,rfl,h⟩⟩ h4,h5⟩
def ae (P:Program) (w0:World) (dr:Bool) (q:dp) (α:AA) (S:ad) (r:AV) (S':ad):Prop :=
 match dr with
 |true=>∀ (n:Nat) (o:Oper),res P.toTables o.op=some q->Ik P w0 n o α S r S'
 |false=>∀ (n:Nat) (o:Oper),res P.toTables o.op=some q->ef P w0 n o α S r S'
theorem ef.Dx {n:Nat}{o:Oper}(h:aX P w0 o.op α S (rB r S')):ef P w0 n o α S r S':=by
 obtain⟨r1,S1,h3,rfl,rfl⟩:=wz (n:=n) h
 exact h3
theorem ae.run {q:dp}(h:∀ (n:Nat) (o:Oper),res P.toTables o.op=some q->aS P w0 n o α S r S'):ae P w0 false q α S r S':=fun n o hr=>(h n o hr).ops fun c e=>by rw [e] at hr;cases hr
theorem Fc.step {ops:Array Oper}{i:Nat}{o:Oper}{rest:List Nat}{aw:AA}{bT:ad}{ch:List PanicEntry}(hi:ops[i]?=some o) (hd:(match o.dst with|some d=>Nat.blt d n|none=>true)=true)
  (hw:∀ (g:Gh) (w:World) (a:Act),bN g w n α a->Region.wanted o (yielded ops a.tmps)=true) (h:ef P w0 n o α S r bT) (k:Fc P w0 n ops rest (α.put o.dst r) bT ch aw S'):Fc P w0 n ops (i::rest) α S ch aw S':=by
 intro F m A g a w Q hF hS hA hQ
 simp only [wpOpsIn,hi]
 rw [if_pos (hw g w a hA)]
 refine⟨fun f _=>hF.1 f,h F m A g a w _ Q hF hS hA fun v w' g' hr eR hE=>?_⟩
 exact k F m A g' _ w' Q hF eR (j9 (hA.later hE.toLater) hd hr) fun a' jX tO h1 h2 h3=>hQ a' jX tO h1 h2 (hE.trans h3)
theorem wA {ops:List Oper}{o:Oper}(hw:ig ops α o=some true) (g:Gh) (w:World) (a:Act) (hA:bN g w n α a):Region.wanted o (yielded ops.toArray a.tmps)=true:=by
 rcases od hw with hg|⟨j,want,hg,hy⟩
 ·simp [Region.wanted,hg]
 ·simp [Region.wanted,hg,oe hA hy]
theorem uU.rC {o:Oper}{rest ops:List Oper}{Q:AA->ad->Prop}(hd:nv n o.dst=true) (hw:ig ops α o=some true) (h:ef P w0 n o α S r S') (k:uU P w0 n ops rest Q E (rA o.dst α r) S'):uU P w0 n ops (o::rest) Q E α S:=by
 intro i hi
 obtain⟨h1,h2⟩:=drop_cons hi
 have h3:=k (i+1) h2
 rw [qZ] at h3
 exact h3.imp (fun ⟨aw,T,h4,h5⟩=>⟨aw,T,qd.step h1 hd (wA hw) h h4,h5⟩) fun ⟨ch,aw,T,h4,h5⟩=>⟨ch,aw,T,Fc.step h1 hd (wA hw) h h4,h5⟩
theorem uU.skip {o:Oper}{rest ops:List Oper}{Q:AA->ad->Prop}(hd:nv n o.dst=true) (hw:ig ops α o=some false) (k:uU P w0 n ops rest Q E (rA o.dst α (.v undef)) S):uU P w0 n ops (o::rest) Q E α S:=by
 intro i hi
 obtain⟨h1,h2⟩:=drop_cons hi
 have h3:=k (i+1) h2
 rw [qZ] at h3
 obtain⟨j,want,b,hg,hy,a_⟩:=zh hw
 have Dy:∀ (g:Gh) (w:World) (a:Act),bN g w n α a->¬ Region.wanted o (yielded ops.toArray a.tmps)=true:=fun g w a hA=>by simp [Region.wanted,hg,oe hA hy,a_]
 refine h3.imp (fun ⟨aw,T,h4,h5⟩=>⟨aw,T,fun F m A g a w Q hF hS hA hQ=>?_,h5⟩) fun ⟨ch,aw,T,h4,h5⟩=>⟨ch,aw,T,fun F m A g a w Q hF hS hA hQ=>?_,h5⟩
 ·show wpOpsIn F m P ops.toArray Q (i::List.range' (i+1) rest.length) a w
  simp only [wpOpsIn,h1]
  rw [if_neg (Dy g w a hA)]
  exact⟨fun f _=>hF.1 f,h4 F m A g _ w Q hF hS (j9 hA hd .v) hQ⟩
 ·show wpOpsIn F m P ops.toArray Q (i::List.range' (i+1) rest.length) a w
  simp only [wpOpsIn,h1]
  rw [if_neg (Dy g w a hA)]
  exact⟨fun f _=>hF.1 f,h4 F m A g _ w Q hF hS (j9 hA hd .v) hQ⟩
def ajA:dp->Bool
 |.call ..=>true
 |_=>false
theorem ae.of {dr:Bool}{q:dp}(hq:ajA q=false) (h:∀ o,res P.toTables o=some q->aX P w0 o α S (rB r S')):ae P w0 dr q α S r S':=by
 cases dr with
 |false=>exact fun n o hr=>ef.Dx (h o.op hr)
 |true =>
  intro n o hr
  refine Ik.ofD ?_
  have h1:=h o.op hr
  generalize o.op=op at hr h1
  cases op with
  |call c =>
   simp only [gm]
   split
   ·rename_i f hc
    simp only [res,hc,oI_] at hr
    subst hr
    cases hq
   ·exact h1
  |_=>exact h1
theorem eH.op {dr:Bool}(hw:bD α.tm i.g=some true) (h:ae P w0 dr i.q α S r S') (k:eH P w0 n dr l R E (bS i.d α r) S'):eH P w0 n dr (i::l) R E α S:=by
 intro ops rest hc
 obtain⟨o,kK,rfl,h1,h2,h3,h4,h5⟩:=lW (α:=α) hc
 have h7:=k ops kK h1
 rw [o6,<-h3] at h7
 cases dr with
 |false=>exact uU.rC h2 (h5 _ hw) (h n o h4) h7
 |true=>exact kJ.opG h2 (h5 _ hw) (h n o h4) h7
theorem eH.skip {dr:Bool}(hw:bD α.tm i.g=some false) (k:eH P w0 n dr l R E (bS i.d α (.v undef)) S):eH P w0 n dr (i::l) R E α S:=by
 intro ops rest hc
 obtain⟨o,kK,rfl,h1,h2,h3,h4,h5⟩:=lW (α:=α) hc
 have h7:=k ops kK h1
 rw [o6,<-h3] at h7
 cases dr with
 |false=>exact uU.skip h2 (h5 _ hw) h7
 |true=>exact kJ.skip h2 (h5 _ hw) h7
def OpP (P:Program) (w0:World) (n:Nat) (o:Oper) (α:AA) (S:ad) (ch:List PanicEntry) (S':ad):Prop :=
 ∀ (F:Fence) (m:Nat) (A:Nat->Prop) (g:Gh) (a:Act) (w:World) (next:Act->World->Prop) (Q:Exit->Act->World->Prop),gU F->St w0 A g S w->bN g w n α a ->
  (∀ (w':World) (g':Gh),St w0 A g' S' w'->Ext A g w g' w'->Q (.panic ch) a w')->o.uponIn F m P a next Q ((o.semAt F.round a.eval).run P w)
def rD (P:Program) (w0:World) (q:dp) (α:AA) (S:ad) (ch:List PanicEntry) (S':ad):Prop:=∀ (n:Nat) (o:Oper),res P.toTables o.op=some q->OpP P w0 n o α S ch S'
theorem eH.wB {ch:List PanicEntry}(hw:bD α.tm i.g=some true) (h:rD P w0 i.q α S ch S') (k:E ch α S'):eH P w0 n false (i::l) R E α S:=by
 intro ops rest hc
 obtain⟨o,kK,rfl,h1,h2,h3,h4,h5⟩:=lW (α:=α) hc
 intro j hj
 obtain⟨k1,k2⟩:=drop_cons hj
 refine .inr ⟨ch,α,S',fun F m A g a w Q hF hS hA hQ=>?_,k⟩
 show wpOpsIn F m P ops.toArray Q (j::List.range' (j+1) kK.length) a w
 simp only [wpOpsIn,k1]
 rw [if_pos (wA (h5 _ hw) g w a hA)]
 exact⟨fun f _=>hF.1 f,h n o h4 F m A g a w _ Q hF hS hA fun w' g' q1 q2=>hQ a w' g' q1 (hA.later q2.toLater) q2⟩
theorem ae.quiet {dr:Bool}{q:dp}(h:iJ q α.tm S=some (r,S')):ae P w0 dr q α S r S':=by
 refine ae.of ?_ fun o hr=>pJ hr h
 cases q<;>first|rfl|(cases h)
theorem Fe {c:Code}{dr:Bool}(h:comp P.toTables n c=some (.aU dr l)):∃ id ops,c=.region id ops dr/\lF P.toTables n ops.toList ops.toList=some l/\(dr=true->yC P.toTables ops=true):=by
 cases c<;>simp only [comp] at h<;>(repeat' split at h)<;>(try cases h)
 ·exact⟨_,_,rfl,by assumption,fun e=>by cases e⟩
 ·exact⟨_,_,rfl,by assumption,fun _=>by assumption⟩
theorem Qm {c:Code}{V:List (Nat × Nat)}(h:comp P.toTables n c=some (.dB V l)):∃ id ops,c=.region id ops true/\lF P.toTables n ops.toList ops.toList=some l/\yC P.toTables ops=false/\V=uS ops:=by
 cases c<;>simp only [comp] at h<;>(repeat' split at h)<;>(try cases h)
 ·exact⟨_,_,rfl,by assumption,by assumption,rfl⟩
theorem Qn {c:Code}{a b:QC}(h:comp P.toTables n c=some (.seq a b)):∃ c1 c2,c=.seq c1 c2/\comp P.toTables n c1=some a/\comp P.toTables n c2=some b:=by
 cases c<;>simp only [comp] at h<;>(repeat' split at h)<;>(try cases h)
 ·exact⟨_,_,rfl,by assumption,by assumption⟩
theorem NW {c:Code}{x:QO}{a b:QC}(h:comp P.toTables n c=some (.cond x a b)):∃ y c1 c2,c=.cond y c1 c2/\qo y=x/\comp P.toTables n c1=some a/\comp P.toTables n c2=some b:=by
 cases c<;>simp only [comp] at h<;>(repeat' split at h)<;>(try cases h)
 ·exact⟨_,_,_,rfl,rfl,by assumption,by assumption⟩
theorem JH {c:Code}{id:Nat}{a:QC}(h:comp P.toTables n c=some (.block id a)):∃ c1,c=.block id c1/\comp P.toTables n c1=some a:=by
 cases c<;>simp only [comp] at h<;>(repeat' split at h)<;>(try cases h)
 ·exact⟨_,rfl,by assumption⟩
theorem JI {c:Code}{a:QC}(h:comp P.toTables n c=some (.scope a)):∃ c1,c=.scope c1/\comp P.toTables n c1=some a:=by
 cases c<;>simp only [comp] at h<;>(repeat' split at h)<;>(try cases h)
 ·exact⟨_,rfl,by assumption⟩
theorem NY {c:Code}{a:QC}(h:comp P.toTables n c=some (.loop a)):∃ c1,c=.loop c1/\comp P.toTables n c1=some a:=by
 cases c<;>simp only [comp] at h<;>(repeat' split at h)<;>(try cases h)
 ·exact⟨_,rfl,by assumption⟩
theorem NZ {c:Code}{x:QO}{ps:List Nat}{a b:QC}(h:comp P.toTables n c=some (.uP x ps a b)):∃ y pt c1 c2,c=.rangeFunc y pt c1 c2/\qo y=x/\pt.toList=ps/\comp P.toTables n c1=some a/\comp P.toTables n c2=some b:=by
 cases c<;>simp only [comp] at h<;>(repeat' split at h)<;>(try cases h)
 ·exact⟨_,_,_,_,rfl,rfl,rfl,by assumption,by assumption⟩
theorem Qo {c:Code}{d:Code}(h:comp P.toTables n c=some (.raw d)):c=d:=by
 cases c<;>simp only [comp] at h<;>(repeat' split at h)<;>(try cases h)<;>rfl
theorem qK {c:Code}:(comp P.toTables n c=some .skip->N0 c)/\(comp P.toTables n c=some .ret->c=.ret)/\∀ id,comp P.toTables n c=some (.exit id)->c=.exit id:=by
 refine⟨fun h=>?_,fun h=>?_,fun id h=>?_⟩
 all_goals
  cases c<;>simp only [comp] at h<;>(repeat' split at h)<;>(try cases h)<;>first|rfl|exact .inl rfl|exact .inr ⟨_,rfl⟩
theorem TH {x:Operand}:α.ev x=(qo x).ev α.tm:=(aJ x).symm
theorem gG.seq {a b:QC}(h:gG P w0 rd n a (fun ex α S=>match ex with|.normal=>gG P w0 rd n b Q α S|e=>Q e α S) α S):gG P w0 rd n (.seq a b) Q α S:=by
 intro c hc hd
 obtain⟨c1,c2,rfl,h1,h2⟩:=Qn hc
 simp only [cI,Bool.and_eq_true] at hd
 refine Wp.seq ?_
 obtain⟨ex,bE,bT,h3,h4⟩:=h c1 h1 hd.1
 refine⟨ex,bE,bT,h3,?_⟩
 cases ex with
 |normal=>exact h4 c2 h2 hd.2
 |_=>exact h4
theorem gG.cond {x:QO}{a b:QC}{t:Bool}(hx:x.ev α.tm=.v (.bool t)) (h:gG P w0 rd n (if t then a else b) Q α S):gG P w0 rd n (.cond x a b) Q α S:=by
 intro c hc hd
 obtain⟨y,c1,c2,rfl,rfl,h1,h2⟩:=NW hc
 simp only [cI,Bool.and_eq_true] at hd
 refine Wp.cond (by rw [TH];exact hx) ?_
 cases t with
 |true=>exact h c1 h1 hd.1
 |false=>exact h c2 h2 hd.2
theorem gG.block {id:Nat}{a:QC}(h:gG P w0 rd n a (fun ex α S=>match ex with|.exit j=>(match Nat.beq j id with|true=>Q .normal α S|false=>Q (.exit j) α S)|e=>Q e α S) α S):gG P w0 rd n (.block id a) Q α S:=by
 intro c hc hd
 obtain⟨c1,rfl,h1⟩:=JH hc
 exact Wp.block (h c1 h1 hd)
theorem gG.scope {a:QC}(h:gG P w0 rd n a (fun ex α S=>match ex with|.goto _=>False|e=>Q e α S) α S):gG P w0 rd n (.scope a) Q α S:=by
 intro c hc hd
 obtain⟨c1,rfl,h1⟩:=JI hc
 obtain⟨ex,bE,bT,h2,h3⟩:=h c1 h1 hd
 cases ex with
 |goto l=>exact h3.elim
 |_=>exact⟨_,bE,bT,cu.scope h2 (fun l e=>by cases e),h3⟩
theorem gG.aU {dr:Bool}(h:eH P w0 n dr l (fun α S=>Q .normal α S) (fun ch α S=>Q (.panic ch) α S) α S):gG P w0 rd n (.aU dr l) Q α S:=by
 intro c hc hd
 obtain⟨id,ops,rfl,h1,lN⟩:=Fe hc
 have h2:=h _ _ h1
 cases dr with
 |false =>
  rcases h2 0 rfl with ⟨aw,S',h3,h4⟩|⟨ch,aw,S',h3,h4⟩
  ·rw [Array.length_toList,<-List.range_eq_range'] at h3
   exact⟨_,aw,S',cu.region h3,h4⟩
  ·rw [Array.length_toList,<-List.range_eq_range'] at h3
   exact⟨.panic ch,aw,S',fun F m A g a w hF hR hS hA=>wpIn_region (h3 F m A g a w _ hF hS hA fun a' w' g' q1 q2 q3=>⟨rfl,g',q1,q2,q3⟩),h4⟩
 |true=>exact kJ.wp (by simp only [cI,Bool.and_eq_true] at hd;simp only [Bool.and_eq_true];exact⟨hd.1,((Bool.and_eq_true _ _).mp ((Bool.and_eq_true _ _).mp (lN rfl)).1).1⟩) h2
theorem Dz {G:Nat->Option Ob}:∀ {ks:List Nat}{k:Nat},k ∉ ks->Ij G ks k=G k
 |[],_,_=>rfl
 |p::ks,k,h=>by
  simp only [List.mem_cons,not_or] at h
  rw [Ij,aC _ _ h.1,Dz h.2]
theorem rE:∀ {l:List QI}{x k:Nat},k ∈ iA l x->x<=k/\k < x+(iA l x).length
 |[],x,k,h=>by cases h
 |i::l,x,k,h=>by
  simp only [iA] at h ⊢
  split at h
  ·rename_i e
   simp only [e,List.length_cons]
   rcases List.mem_cons.1 h with rfl|h
   ·omega
   ·have:=rE h;omega
  ·rename_i e
   exact rE h
theorem St.rsv {A:Nat->Prop}{g:Gh}{w:World}(hS:St w0 A g S w) (l:List QI):St w0 A g (uT S l) w:=by
 obtain⟨G,x⟩:=S
 refine hS.forget (Nat.le_add_right _ _) fun k o hk ha=>?_
 have aA:=hS.al k ha
 have aA:k < x:=aA
 have hk:Ij G (iA l x) k=some o:=hk
 rwa [Dz fun hm=>by have:=(rE hm).1;omega] at hk
theorem gG.dB {V:List (Nat × Nat)}(h:(∀ k ∈ iA l S.nx,k < S.nx+(iA l S.nx).length)->S.nx+(iA l S.nx).length<=(uT S l).nx->mZ P w0 n (S.nx+(iA l S.nx).length) V [] l (fun α S=>Q .normal α S) α (uT S l)):gG P w0 rd n (.dB V l) Q α S:=by
 intro c hc hd
 obtain⟨id,ops,rfl,h1,h2,rfl⟩:=Qm hc
 simp only [cI,Bool.and_eq_true,Bool.or_eq_true,h2,Bool.false_eq_true,false_or] at hd
 have hl:l.length=ops.size:=by
  have key:∀ (ops rest:List Oper) (l:List QI),lF P.toTables n ops rest=some l->l.length=rest.length:=by
   intro ops rest
   induction rest with
   |nil=>intro l h;obtain rfl:=oJ_ h;rfl
   |cons o rest ih =>
    intro l h
    cases l with
    |nil =>
     exfalso
     simp only [lF] at h
     split at h
     ·split at h
      ·cases h
      ·split at h<;>cases h
     ·cases h
    |cons i l =>
     obtain⟨o',kK,e,h3,_⟩:=lW (α:=α) h
     injection e with e1 e2
     subst e1 e2
     simp [ih _ h3]
  rw [key _ _ _ h1];simp
 obtain⟨D,aw,S',h3,h4,h5⟩:=h (fun k hk=>(rE hk).2) (by cases S;exact Nat.le_refl _) ops.toList h1
 simp only [List.length_nil,hl,List.nil_append] at h3 h4
 rw [<-List.range_eq_range'] at h3 h4
 refine⟨.normal,aw,S',fun F m A g a w hF hR hS hA=>?_,h5⟩
 refine cu.acW hd.1 hd.2 (fun p hp=>?_) h3 F m A g a w hF hR (hS.rsv l) hA
 have h6:=List.all_eq_true.1 h4 p hp
 have fp:=(List.mem_filter.1 hp).1
 have in1:∀ {m:List Nat}{k:Nat}{q:Nat × Nat},q ∈ sC ops m k->q.1 < k/\q.2 < k:=by
  intro m k q
  induction k with
  |zero=>intro h;cases h
  |succ k ih =>
   intro h
   simp only [sC,List.mem_append,List.mem_map,List.mem_filter,List.mem_range] at h
   rcases h with ⟨x,⟨hx,_⟩,rfl⟩|h
   ·exact⟨by simp only;omega,by simp only;omega⟩
   ·have:=ih h;omega
 obtain⟨k1,k2⟩:=in1 fp
 have get:∀ i,i < ops.size->wo ((List.range ops.size).map fun i=>(D i).ns) i=(D i).ns:=fun i hi=>by
  unfold wo
  rw [List.getD_eq_getElem?_getD,List.getElem?_map,List.getElem?_range hi]
  rfl
 rw [get _ k1,get _ k2] at h6
 exact h6
theorem iQ.congr {B:Nat}{ops:Array Oper}{D D':Nat->Dt}:∀ {L:List Nat}{α aw:AA}{S S':ad},(∀ i ∈ L,D i=D' i)->iQ P w0 n ops B D L α S aw S'->iQ P w0 n ops B D' L α S aw S'
 |[],_,_,_,_,_,.nil ..=>.nil ..
 |i::rest,_,_,_,_,he,.cons h t=>.cons (by rw [<-he i (by simp)];exact h) (t.congr fun j hj=>he j (by simp [hj]))
theorem lY {ops:List Oper}{k:Nat}{o:Oper}{rest:List Oper}(h:ops.drop k=o::rest):ops.toArray[k]?=some o/\ops.drop (k+1)=rest:=drop_cons h
theorem mZ.step {B:Nat}{V:List (Nat × Nat)}{lg:List (List Nat × List Nat × Bool)}{d:Dt}{α1:AA}{S1:ad}{R:AA->ad->Prop}
  (hg:∀ ops o rest,ops.drop lg.length=o::rest->nv n o.dst=true->o.dst=i.d->res P.toTables o.op=some i.q->(∀ b,bD α.tm i.g=some b->ig ops α o=some b)->nb P w0 n ops.toArray B lg.length d α S α1 S1)
  (k:mZ P w0 n B V (lg++[d.ns]) l R α1 S1):mZ P w0 n B V lg (i::l) R α S:=by
 intro ops hr
 obtain⟨o,rest,h1,h2,h3,h4,h5,h6⟩:=lW (α:=α) hr
 obtain⟨h7,h8⟩:=lY h1
 obtain⟨D,aw,S',k1,k2,k3⟩:=k ops (by rw [List.length_append,List.length_singleton,h8];exact h2)
 simp only [List.length_append,List.length_singleton] at k1 k2
 refine⟨fun i=>if i=lg.length then d else D i,aw,S',?_,?_,k3⟩
 ·rw [List.length_cons,List.range'_succ]
  refine .cons (by rw [if_pos rfl];exact hg ops o rest h1 h3 h4 h5 h6) (k1.congr fun i hi=>?_)
  have:=(List.mem_range'_1.1 hi).1
  rw [if_neg (by omega)]
 ·rw [List.length_cons,List.range'_succ,List.map_cons]
  simp only [if_pos]
  have e:((List.range' (lg.length+1) l.length).map fun i=>(if i=lg.length then d else D i).ns)=(List.range' (lg.length+1) l.length).map fun i=>(D i).ns:=List.map_congr_left fun i hi=>by
   have:=(List.mem_range'_1.1 hi).1
   rw [if_neg (by omega)]
  rw [e]
  rw [List.append_assoc] at k2
  exact k2
theorem AW {ops:List Oper}{o:Oper}{b:Bool}(h:ig ops α o=some b):(b=true->o.guard=none\/∃ j want,o.guard=some (j,want)/\nU ops.toArray α j=some (some want))/\(b=false->∃ j want c,o.guard=some (j,want)/\nU ops.toArray α j=some c/\c ≠ some want):=by
 refine⟨fun e=>od (by rw [<-e];exact h),fun e=>?_⟩
 subst e
 unfold ig at h
 split at h
 ·cases h
 ·rename_i j want hg
  split at h
  ·rename_i hy
   have:=oJ_ h
   subst this
   exact⟨j,false,some true,hg,by rw [<-wC];exact hy,by simp⟩
  ·rename_i hy
   have:=oJ_ h
   cases want with
   |true=>exact⟨j,true,some false,hg,by rw [<-wC];exact hy,by simp⟩
   |false=>simp at this
  ·rename_i hy
   exact⟨j,want,none,hg,by rw [<-wC];exact hy,by simp⟩
  ·cases h
theorem mZ.op {B:Nat}{V:List (Nat × Nat)}{lg:List (List Nat × List Nat × Bool)}{d:Dt}{R:AA->ad->Prop}(hB:B<=S.nx) (hw:bD α.tm i.g=some true) (h:bc P w0 B i.q α S r d) (k:mZ P w0 n B V (lg++[d.ns]) l R (bS i.d α r) (cY S d.W d.m)):mZ P w0 n B V lg (i::l) R α S:=by
 refine mZ.step (fun ops o rest h1 h2 h3 h4 h5=>?_) k
 obtain⟨k1,k2,k3⟩:=h n o h4
 exact⟨o,(lY h1).1,h2,k1,hB,k2,rfl,.inr ⟨(AW (h5 _ hw)).1 rfl,r,by rw [o6,<-h3];cases o.dst<;>rfl,fun T hb ht hm=>k3 T hb ht hm⟩⟩
theorem mZ.skip {B:Nat}{V:List (Nat × Nat)}{lg:List (List Nat × List Nat × Bool)}{R:AA->ad->Prop}(hB:B<=S.nx) (hw:bD α.tm i.g=some false) (k:mZ P w0 n B V (lg++[([],[],false)]) l R (bS i.d α (.v undef)) S):mZ P w0 n B V lg (i::l) R α S:=by
 refine mZ.step (d:=.none_) (fun ops o rest h1 h2 h3 h4 h5=>?_) k
 obtain⟨j,want,c,e1,e2,e3⟩:=(AW (h5 _ hw)).2 rfl
 exact⟨o,(lY h1).1,h2,fun _=>rfl,hB,(show fu S [] from fun p hp=>by cases hp),cG.symm,.inl ⟨j,want,c,e1,e2,e3,by rw [o6,<-h3];cases o.dst<;>rfl,rfl⟩⟩
theorem gG.done {a:QC}(hd:∀ c,comp P.toTables n c=some a->Wp P w0 rd n c Q α S):gG P w0 rd n a Q α S:=fun c hc _=>hd c hc
theorem N4 {cf rF:QF}(h:wq cf α S=some (rF,aw,S')) (k:aa P w0 rd n Q rF aw S'):aa P w0 rd n Q cf α S:=by
 have e:∀ {x:QF}{y:AA}{z:ad},some (x,y,z)=some (rF,aw,S')->aa P w0 rd n Q x y z:=fun h=>by
  simp only [oI_,pI_] at h
  obtain⟨rfl,rfl,rfl⟩:=h
  exact k
 cases cf with
 |run c K =>
  simp only [wq] at h
  split at h
  ·exact gG.done fun c hc=>Wp.of (cu.skip (qK.1 hc)) (e h)
  ·exact gG.aU (e h)
  ·exact gG.aU (e h)
  ·rename_i V l
   cases S with
   |mk G x =>
    simp only [oI_,pI_] at h
    obtain⟨rfl,rfl,rfl⟩:=h
    exact gG.dB fun h1 h2=>k h1 h2
  ·exact gG.seq (e h)
  ·split at h
   ·rename_i hc;exact gG.cond hc (e h)
   ·rename_i hc;exact gG.cond hc (e h)
   ·cases h
  ·exact gG.block (e h)
  ·exact gG.scope (e h)
  ·exact gG.done fun c hc=>by rw [qK.2.2 _ hc];exact Wp.of (cu.exit_ _) (e h)
  ·exact gG.done fun c hc=>by rw [qK.2.1 hc];exact Wp.of cu.ret (e h)
  ·cases h
 |out ex K =>
  cases K with
  |nil=>simp [wq] at h
  |cons it K =>
   cases it with
   |seq b=>cases ex<;>(simp only [wq] at h;have t:=e h;exact t)
   |oS id =>
    cases ex with
    |exit j =>
     simp only [wq] at h
     show (match Nat.beq j id with|true=>db P w0 rd n Q K .normal α S|false=>db P w0 rd n Q K (.exit j) α S)
     split at h
     ·have t:=e h;exact t
     ·have t:=e h;exact t
    |_=>simp only [wq] at h;have t:=e h;exact t
   |wj =>
    cases ex with
    |goto l=>simp [wq] at h
    |_=>simp only [wq] at h;have t:=e h;exact t
 |aU dr l K =>
  simp only [wq] at h
  split at h
  ·exact eH.nil (e h)
  ·rename_i i l
   split at h
   ·rename_i hw
    split at h
    ·rename_i r T hq
     exact eH.op hw (ae.quiet hq) (e h)
    ·cases h
   ·rename_i hw
    exact eH.skip hw (e h)
   ·cases h
 |dB B V lg rs l K =>
  intro jb hB
  simp only [wq] at h
  split at h
  ·split at h
   ·rename_i hc
    have h1:=e h
    exact fun ops _=>⟨fun _=>.none_,α,S,.nil ..,by simpa using hc,h1⟩
   ·cases h
  ·rename_i i l
   split at h
   ·rename_i hw
    split at h
    ·rename_i r d nT hq
     obtain⟨h1,h2⟩:=zV (P:=P) (w0:=w0) (df:=α.df) jb hq
     exact mZ.op hB hw h1 (e h (fun k hk=>jb k (h2 k hk)) (by rw [dI];exact Nat.le_trans hB (Nat.le_add_right _ _)))
    ·cases h
   ·rename_i hw
    exact mZ.skip hB hw (e h jb hB)
   ·cases h
end
end Go.Proofs.YtgjfgekaclobaaaGreat
