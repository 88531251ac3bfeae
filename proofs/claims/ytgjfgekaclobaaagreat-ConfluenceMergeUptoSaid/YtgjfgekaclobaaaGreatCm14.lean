import Derived.Test.YtgjfgekaclobaaaGreatCm13
namespace Go.Proofs.YtgjfgekaclobaaaGreat
set_option linter.unusedVariables false
set_option linter.unusedSimpArgs false
open Go.RowKit
structure QI where
 d:Option Nat
 g:Option (Nat × Bool)
 q:cB
inductive QC where
 |skip
 |aR (dr:Bool) (l:List QI)
 |dh (V:List (Nat × Nat)) (l:List QI)
 |seq (a b:QC)
 |cond (x:QO) (a b:QC)
 |block (id:Nat) (a:QC)
 |scope (a:QC)
 |loop (a:QC)
 |exit (id:Nat)
 |ret
 |vW (x:QO) (ps:List Nat) (a b:QC)
 |raw (c:Code)
def jD (T:Tables) (n:Nat) (ops:List Oper):List Oper->Option (List QI)
 |[]=>some []
 |o::l=>match ku n o.dst,res T o.op,jD T n ops l with
  |true,some q,some l'=>match o.guard with
   |none=>some (⟨o.dst,none,q⟩::l')
   |some (j,want)=>match rp ops j with
    |some t=>some (⟨o.dst,some (t,want),q⟩::l')
    |none=>none
  |_,_,_=>none
def KE (ops:Array Oper):Bool:=ops.toList.any fun o=>match o.op with
 |.call c=>match c.callee,c.args.toList with
  |.builtin .append,.tmp t::_=>ops.toList.any fun p=>(match p.dst with|some d=>Nat.beq d t|none=>false) && (match p.op with|.call c=>(match c.callee with|.value _=>true|_=>false)|_=>false)
  |_,_=>false
 |_=>false
def Qt (ops:Array Oper):Bool:=ops.toList.any fun o=>match o.op with
 |.call c=>match c.callee with
  |.value (.tmp _)=>true
  |_=>false
 |_=>false
def Qu (ops:Array Oper):Bool:=w6 ops && !(KE ops || Qt ops)
def Uy (T:Tables) (t:TypeId):Bool:=match dH T t with
 |some (.pointer e)=>match dH T e with
  |some (.struct fs)=>Nat.ble 2 (fs.toList.filter fun f=>match dH T f.type with|some (.map _ _)|some (.slice _)=>true|_=>false).length
  |_=>false
 |_=>false
def KF (T:Tables) (ops:Array Oper):Bool:=ops.toList.any fun o=>match o.op with
 |.call c=>match c.callee,c.argTypes.toList with
  |.value _,t::_=>Uy T t
  |_,_=>false
 |_=>false
def uH (T:Tables) (ops:Array Oper):Bool:=Qu ops && !KF T ops
def comp (T:Tables) (n:Nat):Code->Option QC
 |.skip=>some .skip
 |.label _=>some .skip
 |.region id ops dr=>match jD T n ops.toList ops.toList with
  |some l=>match dr with
   |false=>some (.aR false l)
   |true=>match uH T ops with
    |true=>some (.aR true l)
    |false=>some (.dh (rm ops) l)
  |none=>some (.raw (.region id ops dr))
 |.seq a b=>match comp T n a,comp T n b with
  |some a',some b'=>some (.seq a' b')
  |_,_=>none
 |.cond c a b=>match comp T n a,comp T n b with
  |some a',some b'=>some (.cond (qo c) a' b')
  |_,_=>none
 |.block id a=>match comp T n a with
  |some a'=>some (.block id a')
  |none=>none
 |.scope a=>match comp T n a with
  |some a'=>some (.scope a')
  |none=>none
 |.loop a=>match comp T n a with
  |some a'=>some (.loop a')
  |none=>none
 |.exit id=>some (.exit id)
 |.ret=>some .ret
 |.rangeFunc f ps a b=>match comp T n a,comp T n b with
  |some a',some b'=>some (.vW (qo f) ps.toList a' b')
  |_,_=>none
 |c=>some (.raw c)
def cg (P:Program):Code->Bool
 |.region _ ops true=>P.follows .mixedOrders && (uH P.toTables ops || mR ops)
 |.seq a b=>cg P a && cg P b
 |.cond _ a b=>cg P a && cg P b
 |.block _ a=>cg P a
 |.scope a=>cg P a
 |.loop a=>cg P a
 |.rangeFunc _ _ a b=>cg P a && cg P b
 |_=>true
inductive ig where
 |seq (c:QC)
 |nU (id:Nat)
 |xd
inductive QF where
 |run (c:QC) (K:List ig)
 |out (ex:Exit) (K:List ig)
 |aR (dr:Bool) (l:List QI) (K:List ig)
 |dh (B:Nat) (V:List (Nat × Nat)) (lg:List (List Nat × List Nat × Bool)) (rs:List Nat) (l:List QI) (K:List ig)
def sX (lg:List (List Nat × List Nat × Bool)) (i:Nat):List Nat × List Nat × Bool:=lg.getD i ([],[],false)
def fK:List QI->Nat->List Nat
 |[],_=>[]
 |i::l,x=>match i.q with|.alloc _=>x::fK l (x+1)|_=>fK l x
def DJ (G:Nat->Option Ob):List Nat->Nat->Option Ob
 |[]=>G
 |k::ks=>aX (DJ G ks) k (some .un)
def rq (S:aa) (l:List QI):aa:=match S with|⟨G,x⟩=>⟨DJ G (fK l x),x+(fK l x).length⟩
def RL (V:List (Nat × Nat)) (lg:List (List Nat × List Nat × Bool)):Bool:=V.all fun p=>dj (sX lg p.1) (sX lg p.2)
section
variable (P:Program) (w0:World) (rd:Bool) (n:Nat)
def gm (b:QC) (Q:Exit->AA->aa->Prop) (α:AA) (S:aa):Prop:=∀ c,comp P.toTables n c=some b->cg P c=true->Wp P w0 rd n c Q α S
def iJ (Q:Exit->AA->aa->Prop):List ig->Exit->AA->aa->Prop
 |[]=>Q
 |.seq b::K=>fun ex α S=>match ex with|.normal=>gm P w0 rd n b (iJ Q K) α S|e=>iJ Q K e α S
 |.nU id::K=>fun ex α S=>match ex with|.exit j=>(match Nat.beq j id with|true=>iJ Q K .normal α S|false=>iJ Q K (.exit j) α S)|e=>iJ Q K e α S
 |.xd::K=>fun ex α S=>match ex with|.goto _=>False|e=>iJ Q K e α S
def A7 (ops:Array Oper) (l:List Nat) (α:AA) (S:aa) (ch:List PanicEntry) (ag:AA) (S':aa):Prop :=
 ∀ (F:Fence) (m:Nat) (A:Nat->Prop) (g:Gh) (a:Act) (w:World) (Q:Exit->Act->World->Prop),fZ F->St w0 A g S w->bf g w n α a ->
  (∀ (a':Act) (w':World) (g':Gh),St w0 A g' S' w'->bf g' w' n ag a'->Ext A g w g' w'->Q (.panic ch) a' w')->wpOpsIn F m P ops Q l a w
def rr (ops l:List Oper) (Q:AA->aa->Prop) (E:List PanicEntry->AA->aa->Prop) (α:AA) (S:aa):Prop :=
 ∀ k,ops.drop k=l->(∃ ag S',nG P w0 n ops.toArray (List.range' k l.length) α S ag S'/\Q ag S')\/∃ ch ag S',A7 P w0 n ops.toArray (List.range' k l.length) α S ch ag S'/\E ch ag S'
def ff (dr:Bool) (l:List QI) (Q:AA->aa->Prop) (E:List PanicEntry->AA->aa->Prop) (α:AA) (S:aa):Prop :=
 ∀ ops rest,jD P.toTables n ops rest=some l->match dr with|false=>rr P w0 n ops rest Q E α S|true=>eP P w0 n ops rest Q α S
def kP (B:Nat) (V:List (Nat × Nat)) (lg:List (List Nat × List Nat × Bool)) (l:List QI) (Q:AA->aa->Prop) (α:AA) (S:aa):Prop :=
 ∀ ops:List Oper,jD P.toTables n ops (ops.drop lg.length)=some l->∃ (D:Nat->Dt) (ag:AA) (S':aa),fY P w0 n ops.toArray B D (List.range' lg.length l.length) α S ag S'/\RL V (lg++(List.range' lg.length l.length).map fun i=>(D i).ns)=true/\Q ag S'
def ab (Q:Exit->AA->aa->Prop):QF->AA->aa->Prop
 |.run c K,α,S=>gm P w0 rd n c (iJ P w0 rd n Q K) α S
 |.out ex K,α,S=>iJ P w0 rd n Q K ex α S
 |.aR dr l K,α,S=>ff P w0 n dr l (fun α S=>iJ P w0 rd n Q K .normal α S) (fun ch α S=>iJ P w0 rd n Q K (.panic ch) α S) α S
 |.dh B V lg rs l K,α,S=>(∀ k ∈ rs,k < B)->B<=S.nx->kP P w0 n B V lg l (fun α S=>iJ P w0 rd n Q K .normal α S) α S
def bB (f:Nat->AV):Option (Nat × Bool)->Option Bool
 |none=>some true
 |some (t,want)=>match f t with
  |.v (.bool true)=>some want
  |.v (.bool false)=>match want with|true=>some false|false=>some true
  |.v (.tuple _)=>some false
  |_=>none
def bJ (d:Option Nat) (α:AA) (r:AV):AA:=match α,d with|⟨f,l⟩,some d=>⟨aX f d r,l⟩|α,none=>α
def sY:QF->AA->aa->Option (QF × AA × aa)
 |.run c K,α,S=>match c with
  |.skip=>some (.out .normal K,α,S)
  |.aR false l=>some (.aR false l K,α,S)
  |.aR true l=>some (.aR true l K,α,S)
  |.dh V l=>match S with|⟨G,x⟩=>some (.dh (x+(fK l x).length) V [] (fK l x) l K,α,rq ⟨G,x⟩ l)
  |.seq a b=>some (.run a (.seq b::K),α,S)
  |.cond x a b=>match x.ev α.tm with
   |.v (.bool true)=>some (.run a K,α,S)
   |.v (.bool false)=>some (.run b K,α,S)
   |_=>none
  |.block id c=>some (.run c (.nU id::K),α,S)
  |.scope c=>some (.run c (.xd::K),α,S)
  |.exit id=>some (.out (.exit id) K,α,S)
  |.ret=>some (.out .ret K,α,S)
  |_=>none
 |.out ex K,α,S=>match K with
  |[]=>none
  |.seq b::K=>match ex with
   |.normal=>some (.run b K,α,S)
   |e=>some (.out e K,α,S)
  |.nU id::K=>match ex with
   |.exit j=>match Nat.beq j id with
    |true=>some (.out .normal K,α,S)
    |false=>some (.out (.exit j) K,α,S)
   |e=>some (.out e K,α,S)
  |.xd::K=>match ex with
   |.goto _=>none
   |e=>some (.out e K,α,S)
 |.aR dr l K,α,S=>match l with
  |[]=>some (.out .normal K,α,S)
  |i::l=>match bB α.tm i.g with
   |some true=>match fT i.q α.tm S with
    |some (r,S')=>some (.aR dr l K,bJ i.d α r,S')
    |none=>none
   |some false=>some (.aR dr l K,bJ i.d α (.v undef),S)
   |none=>none
 |.dh B V lg rs l K,α,S=>match l with
  |[]=>match RL V lg with
   |true=>some (.out .normal K,α,S)
   |false=>none
  |i::l=>match bB α.tm i.g with
   |some true=>match dq i.q α.tm S rs with
    |some (r,d,lQ)=>some (.dh B V (lg++[d.ns]) lQ l K,bJ i.d α r,cJ S d.W d.m)
    |none=>none
   |some false=>some (.dh B V (lg++[([],[],false)]) rs l K,bJ i.d α (.v undef),S)
   |none=>none
end
section
variable {P:Program}{w0:World}{rd:Bool}{n:Nat}{α ag:AA}{S S':aa}{Q Q':Exit->AA->aa->Prop}{ex:Exit}{r:AV}{i:QI}{l:List QI}{R:AA->aa->Prop}{E:List PanicEntry->AA->aa->Prop}
theorem mS {d:Option Nat}:bJ d α r=nF d α r:=by cases d<;>cases α<;>rfl
theorem lR {ops rest:List Oper}(h:jD P.toTables n ops rest=some (i::l)):∃ o kx,rest=o::kx/\jD P.toTables n ops kx=some l/\ku n o.dst=true/\o.dst=i.d/\res P.toTables o.op=some i.q /\
  (∀ b,bB α.tm i.g=some b->e_ ops α o=some b):=by
 cases rest with
 |nil=>cases h
 |cons o kx =>
  simp only [jD] at h
  split at h
  ·rename_i q l' h1 h2 h3
   split at h
   ·rename_i hg
    injection h with h
    injection h with h4 h5
    subst h4 h5
    exact⟨o,kx,rfl,h3,h1,rfl,h2,fun b hb=>by simp only [bB,Option.some.injEq] at hb;subst hb;simp only [e_,hg]⟩
   ·rename_i j want hg
    split at h
    ·rename_i t ht
     injection h with h
     injection h with h4 h5
     subst h4 h5
     refine⟨o,kx,rfl,h3,h1,rfl,h2,fun b hb=>?_⟩
     simp only [e_,hg,Nn,ht]
     simp only [bB] at hb
     split at hb
     ·rename_i e;rw [e];exact hb
     ·rename_i e;rw [e];cases want<;>exact hb
     ·rename_i e;rw [e];exact hb
     ·cases hb
    ·cases h
  ·cases h
theorem ff.nil {dr:Bool}(h:R α S):ff P w0 n dr [] R E α S:=by
 intro ops rest hc
 have:rest=[]:=by
  cases rest with
  |nil=>rfl
  |cons o r =>
   simp only [jD] at hc
   repeat' split at hc
   all_goals cases hc
 subst this
 cases dr with
 |false=>exact fun k hk=>.inl (jh.nil (ops:=ops) h k hk)
 |true=>exact eP.nil h
def DK (P:Program) (w0:World) (n:Nat) (o:Oper) (α:AA) (S:aa) (r:AV) (S':aa):Prop :=
 de P w0 n o (α.only (bU o)) S r S'/\(kE o.op=true->S'=S/\∀ S,de P w0 n o (α.only (bU o)) S r S)/\(sJ o.op=false->S'=S)
theorem DK.Y1 {o:Oper}(h:jI P w0 o.op α S (nT r S')):DK P w0 n o α S r S':=by
 cases hp:kE o.op with
 |true =>
  obtain⟨r2,h1,h2⟩:=Nm hp (AE h)
  obtain⟨rfl,rfl⟩:=h1
  have h3:∀ T,de P w0 n o (α.only (bU o)) T r2 T:=fun T=>by
   obtain⟨r',S',h4,rfl,rfl⟩:=jf (n:=n) (h2 T)
   exact h4
  exact⟨h3 _,fun _=>⟨rfl,h3⟩,fun _=>rfl⟩
 |false =>
  cases hw:sJ o.op with
  |false =>
   obtain⟨r2,h1,h2⟩:=Nl hp hw h
   obtain⟨rfl,rfl⟩:=h1
   obtain⟨r',S',h4,rfl,rfl⟩:=jf (n:=n) h2
   exact⟨h4,fun h=>(by rw [hp] at h;cases h),fun _=>rfl⟩
  |true =>
   obtain⟨r2,S2,h1,rfl,rfl⟩:=jf (n:=n) (AE h)
   exact⟨h1,fun h=>(by rw [hp] at h;cases h),fun h=>(by rw [hw] at h;cases h)⟩
theorem eP.opG {o:Oper}{rest ops:List Oper}{Q:AA->aa->Prop}(hd:ku n o.dst=true) (hw:e_ ops α o=some true) (h:DK P w0 n o α S r S') (k:eP P w0 n ops rest Q (nF o.dst α r) S'):eP P w0 n ops (o::rest) Q α S:=by
 intro i hi
 obtain⟨h1,h2⟩:=drop_cons hi
 obtain⟨ag,T,h4,h5⟩:=k (i+1) h2
 rw [mQ] at h4
 exact⟨ag,T,.cons ⟨o,h1,hd,.inr ⟨l4 hw,r,rfl,h⟩⟩ h4,h5⟩
def ad (P:Program) (w0:World) (dr:Bool) (q:cB) (α:AA) (S:aa) (r:AV) (S':aa):Prop :=
 match dr with
 |true=>∀ (n:Nat) (o:Oper),res P.toTables o.op=some q->DK P w0 n o α S r S'
 |false=>∀ (n:Nat) (o:Oper),res P.toTables o.op=some q->de P w0 n o α S r S'
theorem de.zr {n:Nat}{o:Oper}(h:aK P w0 o.op α S (nT r S')):de P w0 n o α S r S':=by
 obtain⟨r1,S1,h3,rfl,rfl⟩:=sK (n:=n) h
 exact h3
theorem ad.run {q:cB}(h:∀ (n:Nat) (o:Oper),res P.toTables o.op=some q->aI P w0 n o α S r S'):ad P w0 false q α S r S':=fun n o hr=>(h n o hr).ops fun c e=>by rw [e] at hr;cases hr
theorem A7.step {ops:Array Oper}{i:Nat}{o:Oper}{rest:List Nat}{ag:AA}{bR:aa}{ch:List PanicEntry}(hi:ops[i]?=some o) (hd:(match o.dst with|some d=>Nat.blt d n|none=>true)=true)
  (hw:∀ (g:Gh) (w:World) (a:Act),bf g w n α a->Region.wanted o (yielded ops a.tmps)=true) (h:de P w0 n o α S r bR) (k:A7 P w0 n ops rest (α.put o.dst r) bR ch ag S'):A7 P w0 n ops (i::rest) α S ch ag S':=by
 intro F m A g a w Q hF hS hA hQ
 simp only [wpOpsIn,hi]
 rw [if_pos (hw g w a hA)]
 refine⟨fun f _=>hF.1 f,h F m A g a w _ Q hF hS hA fun v w' g' hr dO hE=>?_⟩
 exact k F m A g' _ w' Q hF dO (gV (hA.later hE.toLater) hd hr) fun a' iY qv h1 h2 h3=>hQ a' iY qv h1 h2 (hE.trans h3)
theorem zt {ops:List Oper}{o:Oper}(hw:e_ ops α o=some true) (g:Gh) (w:World) (a:Act) (hA:bf g w n α a):Region.wanted o (yielded ops.toArray a.tmps)=true:=by
 rcases l4 hw with hg|⟨j,want,hg,hy⟩
 ·simp [Region.wanted,hg]
 ·simp [Region.wanted,hg,kW hA hy]
theorem rr.oI {o:Oper}{rest ops:List Oper}{Q:AA->aa->Prop}(hd:ku n o.dst=true) (hw:e_ ops α o=some true) (h:de P w0 n o α S r S') (k:rr P w0 n ops rest Q E (nF o.dst α r) S'):rr P w0 n ops (o::rest) Q E α S:=by
 intro i hi
 obtain⟨h1,h2⟩:=drop_cons hi
 have h3:=k (i+1) h2
 rw [mQ] at h3
 exact h3.imp (fun ⟨ag,T,h4,h5⟩=>⟨ag,T,nG.step h1 hd (zt hw) h h4,h5⟩) fun ⟨ch,ag,T,h4,h5⟩=>⟨ch,ag,T,A7.step h1 hd (zt hw) h h4,h5⟩
theorem rr.skip {o:Oper}{rest ops:List Oper}{Q:AA->aa->Prop}(hd:ku n o.dst=true) (hw:e_ ops α o=some false) (k:rr P w0 n ops rest Q E (nF o.dst α (.v undef)) S):rr P w0 n ops (o::rest) Q E α S:=by
 intro i hi
 obtain⟨h1,h2⟩:=drop_cons hi
 have h3:=k (i+1) h2
 rw [mQ] at h3
 obtain⟨j,want,b,hg,hy,aP⟩:=pW hw
 have vk:∀ (g:Gh) (w:World) (a:Act),bf g w n α a->¬ Region.wanted o (yielded ops.toArray a.tmps)=true:=fun g w a hA=>by simp [Region.wanted,hg,kW hA hy,aP]
 refine h3.imp (fun ⟨ag,T,h4,h5⟩=>⟨ag,T,fun F m A g a w Q hF hS hA hQ=>?_,h5⟩) fun ⟨ch,ag,T,h4,h5⟩=>⟨ch,ag,T,fun F m A g a w Q hF hS hA hQ=>?_,h5⟩
 ·show wpOpsIn F m P ops.toArray Q (i::List.range' (i+1) rest.length) a w
  simp only [wpOpsIn,h1]
  rw [if_neg (vk g w a hA)]
  exact⟨fun f _=>hF.1 f,h4 F m A g _ w Q hF hS (gV hA hd .v) hQ⟩
 ·show wpOpsIn F m P ops.toArray Q (i::List.range' (i+1) rest.length) a w
  simp only [wpOpsIn,h1]
  rw [if_neg (vk g w a hA)]
  exact⟨fun f _=>hF.1 f,h4 F m A g _ w Q hF hS (gV hA hd .v) hQ⟩
def aag:cB->Bool
 |.call ..=>true
 |_=>false
theorem ad.of {dr:Bool}{q:cB}(hq:aag q=false) (h:∀ o,res P.toTables o=some q->aK P w0 o α S (nT r S')):ad P w0 dr q α S r S':=by
 cases dr with
 |false=>exact fun n o hr=>de.zr (h o.op hr)
 |true =>
  intro n o hr
  refine DK.Y1 ?_
  have h1:=h o.op hr
  generalize o.op=op at hr h1
  cases op with
  |call c =>
   simp only [jI]
   split
   ·rename_i f hc
    simp only [res,hc,Option.some.injEq] at hr
    subst hr
    cases hq
   ·exact h1
  |_=>exact h1
theorem ff.op {dr:Bool}(hw:bB α.tm i.g=some true) (h:ad P w0 dr i.q α S r S') (k:ff P w0 n dr l R E (bJ i.d α r) S'):ff P w0 n dr (i::l) R E α S:=by
 intro ops rest hc
 obtain⟨o,kx,rfl,h1,h2,h3,h4,h5⟩:=lR (α:=α) hc
 have h7:=k ops kx h1
 rw [mS,<-h3] at h7
 cases dr with
 |false=>exact rr.oI h2 (h5 _ hw) (h n o h4) h7
 |true=>exact eP.opG h2 (h5 _ hw) (h n o h4) h7
theorem ff.skip {dr:Bool}(hw:bB α.tm i.g=some false) (k:ff P w0 n dr l R E (bJ i.d α (.v undef)) S):ff P w0 n dr (i::l) R E α S:=by
 intro ops rest hc
 obtain⟨o,kx,rfl,h1,h2,h3,h4,h5⟩:=lR (α:=α) hc
 have h7:=k ops kx h1
 rw [mS,<-h3] at h7
 cases dr with
 |false=>exact rr.skip h2 (h5 _ hw) h7
 |true=>exact eP.skip h2 (h5 _ hw) h7
def Y2 (P:Program) (w0:World) (n:Nat) (o:Oper) (α:AA) (S:aa) (ch:List PanicEntry) (S':aa):Prop :=
 ∀ (F:Fence) (m:Nat) (A:Nat->Prop) (g:Gh) (a:Act) (w:World) (next:Act->World->Prop) (Q:Exit->Act->World->Prop),fZ F->St w0 A g S w->bf g w n α a ->
  (∀ (w':World) (g':Gh),St w0 A g' S' w'->Ext A g w g' w'->Q (.panic ch) a w')->o.uponIn F m P a next Q ((o.semAt F.round a.eval).run P w)
def RM (P:Program) (w0:World) (q:cB) (α:AA) (S:aa) (ch:List PanicEntry) (S':aa):Prop:=∀ (n:Nat) (o:Oper),res P.toTables o.op=some q->Y2 P w0 n o α S ch S'
theorem ad.quiet {dr:Bool}{q:cB}(h:fT q α.tm S=some (r,S')):ad P w0 dr q α S r S':=by
 refine ad.of ?_ fun o hr=>nm hr h
 cases q<;>first|rfl|(cases h)
theorem KG {c:Code}{dr:Bool}(h:comp P.toTables n c=some (.aR dr l)):∃ id ops,c=.region id ops dr/\jD P.toTables n ops.toList ops.toList=some l/\(dr=true->uH P.toTables ops=true):=by
 cases c<;>simp only [comp] at h<;>(repeat' split at h)<;>(try cases h)
 ·exact⟨_,_,rfl,by assumption,fun e=>by cases e⟩
 ·exact⟨_,_,rfl,by assumption,fun _=>by assumption⟩
theorem KH {c:Code}{V:List (Nat × Nat)}(h:comp P.toTables n c=some (.dh V l)):∃ id ops,c=.region id ops true/\jD P.toTables n ops.toList ops.toList=some l/\uH P.toTables ops=false/\V=rm ops:=by
 cases c<;>simp only [comp] at h<;>(repeat' split at h)<;>(try cases h)
 ·exact⟨_,_,rfl,by assumption,by assumption,rfl⟩
theorem KI {c:Code}{a b:QC}(h:comp P.toTables n c=some (.seq a b)):∃ c1 c2,c=.seq c1 c2/\comp P.toTables n c1=some a/\comp P.toTables n c2=some b:=by
 cases c<;>simp only [comp] at h<;>(repeat' split at h)<;>(try cases h)
 ·exact⟨_,_,rfl,by assumption,by assumption⟩
theorem I0 {c:Code}{x:QO}{a b:QC}(h:comp P.toTables n c=some (.cond x a b)):∃ y c1 c2,c=.cond y c1 c2/\qo y=x/\comp P.toTables n c1=some a/\comp P.toTables n c2=some b:=by
 cases c<;>simp only [comp] at h<;>(repeat' split at h)<;>(try cases h)
 ·exact⟨_,_,_,rfl,rfl,by assumption,by assumption⟩
theorem E2 {c:Code}{id:Nat}{a:QC}(h:comp P.toTables n c=some (.block id a)):∃ c1,c=.block id c1/\comp P.toTables n c1=some a:=by
 cases c<;>simp only [comp] at h<;>(repeat' split at h)<;>(try cases h)
 ·exact⟨_,rfl,by assumption⟩
theorem E3 {c:Code}{a:QC}(h:comp P.toTables n c=some (.scope a)):∃ c1,c=.scope c1/\comp P.toTables n c1=some a:=by
 cases c<;>simp only [comp] at h<;>(repeat' split at h)<;>(try cases h)
 ·exact⟨_,rfl,by assumption⟩
theorem I1 {c:Code}{a:QC}(h:comp P.toTables n c=some (.loop a)):∃ c1,c=.loop c1/\comp P.toTables n c1=some a:=by
 cases c<;>simp only [comp] at h<;>(repeat' split at h)<;>(try cases h)
 ·exact⟨_,rfl,by assumption⟩
theorem KJ {c:Code}{d:Code}(h:comp P.toTables n c=some (.raw d)):c=d:=by
 cases c<;>simp only [comp] at h<;>(repeat' split at h)<;>(try cases h)<;>rfl
theorem ru {c:Code}:(comp P.toTables n c=some .skip->I2 c)/\(comp P.toTables n c=some .ret->c=.ret)/\∀ id,comp P.toTables n c=some (.exit id)->c=.exit id:=by
 refine⟨fun h=>?_,fun h=>?_,fun id h=>?_⟩
 all_goals
  cases c<;>simp only [comp] at h<;>(repeat' split at h)<;>(try cases h)<;>first|rfl|exact .inl rfl|exact .inr ⟨_,rfl⟩
theorem Ns {x:Operand}:α.ev x=(qo x).ev α.tm:=(aD x).symm
theorem gm.seq {a b:QC}(h:gm P w0 rd n a (fun ex α S=>match ex with|.normal=>gm P w0 rd n b Q α S|e=>Q e α S) α S):gm P w0 rd n (.seq a b) Q α S:=by
 intro c hc hd
 obtain⟨c1,c2,rfl,h1,h2⟩:=KI hc
 simp only [cg,Bool.and_eq_true] at hd
 refine Wp.seq ?_
 obtain⟨ex,bG,bR,h3,h4⟩:=h c1 h1 hd.1
 refine⟨ex,bG,bR,h3,?_⟩
 cases ex with
 |normal=>exact h4 c2 h2 hd.2
 |_=>exact h4
theorem gm.cond {x:QO}{a b:QC}{t:Bool}(hx:x.ev α.tm=.v (.bool t)) (h:gm P w0 rd n (if t then a else b) Q α S):gm P w0 rd n (.cond x a b) Q α S:=by
 intro c hc hd
 obtain⟨y,c1,c2,rfl,rfl,h1,h2⟩:=I0 hc
 simp only [cg,Bool.and_eq_true] at hd
 refine Wp.cond (by rw [Ns];exact hx) ?_
 cases t with
 |true=>exact h c1 h1 hd.1
 |false=>exact h c2 h2 hd.2
theorem gm.block {id:Nat}{a:QC}(h:gm P w0 rd n a (fun ex α S=>match ex with|.exit j=>(match Nat.beq j id with|true=>Q .normal α S|false=>Q (.exit j) α S)|e=>Q e α S) α S):gm P w0 rd n (.block id a) Q α S:=by
 intro c hc hd
 obtain⟨c1,rfl,h1⟩:=E2 hc
 exact Wp.block (h c1 h1 hd)
theorem gm.scope {a:QC}(h:gm P w0 rd n a (fun ex α S=>match ex with|.goto _=>False|e=>Q e α S) α S):gm P w0 rd n (.scope a) Q α S:=by
 intro c hc hd
 obtain⟨c1,rfl,h1⟩:=E3 hc
 obtain⟨ex,bG,bR,h2,h3⟩:=h c1 h1 hd
 cases ex with
 |goto l=>exact h3.elim
 |_=>exact⟨_,bG,bR,bI.scope h2 (fun l e=>by cases e),h3⟩
theorem gm.aR {dr:Bool}(h:ff P w0 n dr l (fun α S=>Q .normal α S) (fun ch α S=>Q (.panic ch) α S) α S):gm P w0 rd n (.aR dr l) Q α S:=by
 intro c hc hd
 obtain⟨id,ops,rfl,h1,mD⟩:=KG hc
 have h2:=h _ _ h1
 cases dr with
 |false =>
  rcases h2 0 rfl with ⟨ag,S',h3,h4⟩|⟨ch,ag,S',h3,h4⟩
  ·rw [Array.length_toList,<-List.range_eq_range'] at h3
   exact⟨_,ag,S',bI.region h3,h4⟩
  ·rw [Array.length_toList,<-List.range_eq_range'] at h3
   exact⟨.panic ch,ag,S',fun F m A g a w hF hR hS hA=>wpIn_region (h3 F m A g a w _ hF hS hA fun a' w' g' q1 q2 q3=>⟨rfl,g',q1,q2,q3⟩),h4⟩
 |true=>exact eP.wp (by simp only [cg,Bool.and_eq_true] at hd;simp only [Bool.and_eq_true];exact⟨hd.1,((Bool.and_eq_true _ _).mp ((Bool.and_eq_true _ _).mp (mD rfl)).1).1⟩) h2
theorem zu {G:Nat->Option Ob}:∀ {ks:List Nat}{k:Nat},k ∉ ks->DJ G ks k=G k
 |[],_,_=>rfl
 |p::ks,k,h=>by
  simp only [List.mem_cons,not_or] at h
  rw [DJ,aq _ _ h.1,zu h.2]
theorem oJ:∀ {l:List QI}{x k:Nat},k ∈ fK l x->x<=k/\k < x+(fK l x).length
 |[],x,k,h=>by cases h
 |i::l,x,k,h=>by
  simp only [fK] at h ⊢
  split at h
  ·rename_i e
   simp only [e,List.length_cons]
   rcases List.mem_cons.1 h with rfl|h
   ·omega
   ·have:=oJ h;omega
  ·rename_i e
   exact oJ h
theorem St.Y3 {A:Nat->Prop}{g:Gh}{w:World}(hS:St w0 A g S w) (l:List QI):St w0 A g (rq S l) w:=by
 obtain⟨G,x⟩:=S
 refine hS.forget (Nat.le_add_right _ _) fun k o hk ha=>?_
 have aB:=hS.al k ha
 have aB:k < x:=aB
 have hk:DJ G (fK l x) k=some o:=hk
 rwa [zu fun hm=>by have:=(oJ hm).1;omega] at hk
theorem gm.dh {V:List (Nat × Nat)}(h:(∀ k ∈ fK l S.nx,k < S.nx+(fK l S.nx).length)->S.nx+(fK l S.nx).length<=(rq S l).nx->kP P w0 n (S.nx+(fK l S.nx).length) V [] l (fun α S=>Q .normal α S) α (rq S l)):gm P w0 rd n (.dh V l) Q α S:=by
 intro c hc hd
 obtain⟨id,ops,rfl,h1,h2,rfl⟩:=KH hc
 simp only [cg,Bool.and_eq_true,Bool.or_eq_true,h2,Bool.false_eq_true,false_or] at hd
 have hl:l.length=ops.size:=by
  have key:∀ (ops rest:List Oper) (l:List QI),jD P.toTables n ops rest=some l->l.length=rest.length:=by
   intro ops rest
   induction rest with
   |nil=>intro l h;obtain rfl:=Option.some.inj h;rfl
   |cons o rest ih =>
    intro l h
    cases l with
    |nil =>
     exfalso
     simp only [jD] at h
     split at h
     ·split at h
      ·cases h
      ·split at h<;>cases h
     ·cases h
    |cons i l =>
     obtain⟨o',kx,e,h3,_⟩:=lR (α:=α) h
     injection e with e1 e2
     subst e1 e2
     simp [ih _ h3]
  rw [key _ _ _ h1];simp
 obtain⟨D,ag,S',h3,h4,h5⟩:=h (fun k hk=>(oJ hk).2) (by cases S;exact Nat.le_refl _) ops.toList h1
 simp only [List.length_nil,hl,List.nil_append] at h3 h4
 rw [<-List.range_eq_range'] at h3 h4
 refine⟨.normal,ag,S',fun F m A g a w hF hR hS hA=>?_,h5⟩
 refine bI.Ux hd.1 hd.2 (fun p hp=>?_) h3 F m A g a w hF hR (hS.Y3 l) hA
 have h6:=List.all_eq_true.1 h4 p hp
 have fI:=(List.mem_filter.1 hp).1
 have in1:∀ {m:List Nat}{k:Nat}{q:Nat × Nat},q ∈ pd ops m k->q.1 < k/\q.2 < k:=by
  intro m k q
  induction k with
  |zero=>intro h;cases h
  |succ k ih =>
   intro h
   simp only [pd,List.mem_append,List.mem_map,List.mem_filter,List.mem_range] at h
   rcases h with ⟨x,⟨hx,_⟩,rfl⟩|h
   ·exact⟨by simp only;omega,by simp only;omega⟩
   ·have:=ih h;omega
 obtain⟨k1,k2⟩:=in1 fI
 have get:∀ i,i < ops.size->sX ((List.range ops.size).map fun i=>(D i).ns) i=(D i).ns:=fun i hi=>by
  unfold sX
  rw [List.getD_eq_getElem?_getD,List.getElem?_map,List.getElem?_range hi]
  rfl
 rw [get _ k1,get _ k2] at h6
 exact h6
theorem fY.congr {B:Nat}{ops:Array Oper}{D D':Nat->Dt}:∀ {L:List Nat}{α ag:AA}{S S':aa},(∀ i ∈ L,D i=D' i)->fY P w0 n ops B D L α S ag S'->fY P w0 n ops B D' L α S ag S'
 |[],_,_,_,_,_,.nil ..=>.nil ..
 |i::rest,_,_,_,_,he,.cons h t=>.cons (by rw [<-he i (by simp)];exact h) (t.congr fun j hj=>he j (by simp [hj]))
theorem jY {ops:List Oper}{k:Nat}{o:Oper}{rest:List Oper}(h:ops.drop k=o::rest):ops.toArray[k]?=some o/\ops.drop (k+1)=rest:=drop_cons h
theorem kP.step {B:Nat}{V:List (Nat × Nat)}{lg:List (List Nat × List Nat × Bool)}{d:Dt}{α1:AA}{S1:aa}{R:AA->aa->Prop}
  (hg:∀ ops o rest,ops.drop lg.length=o::rest->ku n o.dst=true->o.dst=i.d->res P.toTables o.op=some i.q->(∀ b,bB α.tm i.g=some b->e_ ops α o=some b)->kZ P w0 n ops.toArray B lg.length d α S α1 S1)
  (k:kP P w0 n B V (lg++[d.ns]) l R α1 S1):kP P w0 n B V lg (i::l) R α S:=by
 intro ops hr
 obtain⟨o,rest,h1,h2,h3,h4,h5,h6⟩:=lR (α:=α) hr
 obtain⟨h7,h8⟩:=jY h1
 obtain⟨D,ag,S',k1,k2,k3⟩:=k ops (by rw [List.length_append,List.length_singleton,h8];exact h2)
 simp only [List.length_append,List.length_singleton] at k1 k2
 refine⟨fun i=>if i=lg.length then d else D i,ag,S',?_,?_,k3⟩
 ·rw [List.length_cons,List.range'_succ]
  refine .cons (by rw [if_pos rfl];exact hg ops o rest h1 h3 h4 h5 h6) (k1.congr fun i hi=>?_)
  have:=(List.mem_range'_1.1 hi).1
  rw [if_neg (by omega)]
 ·rw [List.length_cons,List.range'_succ,List.map_cons]
  simp only [if_pos]
  have e:((List.range' (lg.length+1) l.length).map fun i=>(if i=lg.length then d else D i).ns)=(List.range' (lg.length+1) l.length).map fun i=>(D i).ns:=List.map_congr_left fun i hi=>by
   have:=(List.mem_range'_1.1 hi).1
   rw [if_neg (by omega)]
  rw [e]
  rw [List.append_assoc] at k2
  exact k2
theorem xe {ops:List Oper}{o:Oper}{b:Bool}(h:e_ ops α o=some b):(b=true->o.guard=none\/∃ j want,o.guard=some (j,want)/\lO ops.toArray α j=some (some want))/\(b=false->∃ j want c,o.guard=some (j,want)/\lO ops.toArray α j=some c/\c ≠ some want):=by
 refine⟨fun e=>l4 (by rw [<-e];exact h),fun e=>?_⟩
 subst e
 unfold e_ at h
 split at h
 ·cases h
 ·rename_i j want hg
  split at h
  ·rename_i hy
   have:=Option.some.inj h
   subst this
   exact⟨j,false,some true,hg,by rw [<-sO];exact hy,by simp⟩
  ·rename_i hy
   have:=Option.some.inj h
   cases want with
   |true=>exact⟨j,true,some false,hg,by rw [<-sO];exact hy,by simp⟩
   |false=>simp at this
  ·rename_i hy
   exact⟨j,want,none,hg,by rw [<-sO];exact hy,by simp⟩
  ·cases h
theorem kP.op {B:Nat}{V:List (Nat × Nat)}{lg:List (List Nat × List Nat × Bool)}{d:Dt}{R:AA->aa->Prop}(hB:B<=S.nx) (hw:bB α.tm i.g=some true) (h:a_ P w0 B i.q α S r d) (k:kP P w0 n B V (lg++[d.ns]) l R (bJ i.d α r) (cJ S d.W d.m)):kP P w0 n B V lg (i::l) R α S:=by
 refine kP.step (fun ops o rest h1 h2 h3 h4 h5=>?_) k
 obtain⟨k1,k2,k3⟩:=h n o h4
 exact⟨o,(jY h1).1,h2,k1,hB,k2,rfl,.inr ⟨(xe (h5 _ hw)).1 rfl,r,by rw [mS,<-h3];cases o.dst<;>rfl,fun T hb ht hm=>k3 T hb ht hm⟩⟩
theorem kP.skip {B:Nat}{V:List (Nat × Nat)}{lg:List (List Nat × List Nat × Bool)}{R:AA->aa->Prop}(hB:B<=S.nx) (hw:bB α.tm i.g=some false) (k:kP P w0 n B V (lg++[([],[],false)]) l R (bJ i.d α (.v undef)) S):kP P w0 n B V lg (i::l) R α S:=by
 refine kP.step (d:=.none_) (fun ops o rest h1 h2 h3 h4 h5=>?_) k
 obtain⟨j,want,c,e1,e2,e3⟩:=(xe (h5 _ hw)).2 rfl
 exact⟨o,(jY h1).1,h2,fun _=>rfl,hB,(show fu S [] from fun p hp=>by cases hp),cE.symm,.inl ⟨j,want,c,e1,e2,e3,by rw [mS,<-h3];cases o.dst<;>rfl,rfl⟩⟩
theorem gm.done {a:QC}(hd:∀ c,comp P.toTables n c=some a->Wp P w0 rd n c Q α S):gm P w0 rd n a Q α S:=fun c hc _=>hd c hc
theorem I3 {cf oK:QF}(h:sY cf α S=some (oK,ag,S')) (k:ab P w0 rd n Q oK ag S'):ab P w0 rd n Q cf α S:=by
 have e:∀ {x:QF}{y:AA}{z:aa},some (x,y,z)=some (oK,ag,S')->ab P w0 rd n Q x y z:=fun h=>by
  simp only [Option.some.injEq,Prod.mk.injEq] at h
  obtain⟨rfl,rfl,rfl⟩:=h
  exact k
 cases cf with
 |run c K =>
  simp only [sY] at h
  split at h
  ·exact gm.done fun c hc=>Wp.of (bI.skip (ru.1 hc)) (e h)
  ·exact gm.aR (e h)
  ·exact gm.aR (e h)
  ·rename_i V l
   cases S with
   |mk G x =>
    simp only [Option.some.injEq,Prod.mk.injEq] at h
    obtain⟨rfl,rfl,rfl⟩:=h
    exact gm.dh fun h1 h2=>k h1 h2
  ·exact gm.seq (e h)
  ·split at h
   ·rename_i hc;exact gm.cond hc (e h)
   ·rename_i hc;exact gm.cond hc (e h)
   ·cases h
  ·exact gm.block (e h)
  ·exact gm.scope (e h)
  ·exact gm.done fun c hc=>by rw [ru.2.2 _ hc];exact Wp.of (bI.exit_ _) (e h)
  ·exact gm.done fun c hc=>by rw [ru.2.1 hc];exact Wp.of bI.ret (e h)
  ·cases h
 |out ex K =>
  cases K with
  |nil=>simp [sY] at h
  |cons it K =>
   cases it with
   |seq b=>cases ex<;>(simp only [sY] at h;have t:=e h;exact t)
   |nU id =>
    cases ex with
    |exit j =>
     simp only [sY] at h
     show (match Nat.beq j id with|true=>iJ P w0 rd n Q K .normal α S|false=>iJ P w0 rd n Q K (.exit j) α S)
     split at h
     ·have t:=e h;exact t
     ·have t:=e h;exact t
    |_=>simp only [sY] at h;have t:=e h;exact t
   |xd =>
    cases ex with
    |goto l=>simp [sY] at h
    |_=>simp only [sY] at h;have t:=e h;exact t
 |aR dr l K =>
  simp only [sY] at h
  split at h
  ·exact ff.nil (e h)
  ·rename_i i l
   split at h
   ·rename_i hw
    split at h
    ·rename_i r T hq
     exact ff.op hw (ad.quiet hq) (e h)
    ·cases h
   ·rename_i hw
    exact ff.skip hw (e h)
   ·cases h
 |dh B V lg rs l K =>
  intro ju hB
  simp only [sY] at h
  split at h
  ·split at h
   ·rename_i hc
    have h1:=e h
    exact fun ops _=>⟨fun _=>.none_,α,S,.nil ..,by simpa using hc,h1⟩
   ·cases h
  ·rename_i i l
   split at h
   ·rename_i hw
    split at h
    ·rename_i r d lQ hq
     obtain⟨h1,h2⟩:=vV (P:=P) (w0:=w0) (df:=α.df) ju hq
     exact kP.op hB hw h1 (e h (fun k hk=>ju k (h2 k hk)) (by rw [dp];exact Nat.le_trans hB (Nat.le_add_right _ _)))
    ·cases h
   ·rename_i hw
    exact kP.skip hB hw (e h ju hB)
   ·cases h
end
end Go.Proofs.YtgjfgekaclobaaaGreat
