import Derived.Test.YtbofilglphfceaaGreatD13
namespace Go.Proofs.YtbofilglphfceaaGreat
set_option linter.unusedVariables false
set_option linter.unusedSimpArgs false
open Go.RowKit
structure QI where
 d:Option Nat
 g:Option (Nat × Bool)
 q:cj
inductive QC where
 |skip
 |bB (dr:Bool) (l:List QI)
 |cB (V:List (Nat × Nat)) (l:List QI)
 |seq (a b:QC)
 |cond (x:QO) (a b:QC)
 |block (id:Nat) (a:QC)
 |scope (a:QC)
 |loop (a:QC)
 |exit (id:Nat)
 |ret
 |qy (x:QO) (ps:List Nat) (a b:QC)
 |raw (c:Code)
def gA (T:Tables) (n:Nat) (ops:List Oper):List Oper->Option (List QI)
 |[]=>some []
 |o::l=>match kR n o.dst,res T o.op,gA T n ops l with
  |true,some q,some l'=>match o.guard with
   |none=>some (⟨o.dst,none,q⟩::l')
   |some (j,want)=>match nf ops j with
    |some t=>some (⟨o.dst,some (t,want),q⟩::l')
    |none=>none
  |_,_,_=>none
def DB (ops:Array Oper):Bool:=ops.toList.any fun o=>match o.op with
 |.call c=>match c.callee,c.args.toList with
  |.builtin .append,.tmp t::_=>ops.toList.any fun p=>(match p.dst with|some d=>Nat.beq d t|none=>false) && (match p.op with|.call c=>(match c.callee with|.value _=>true|_=>false)|_=>false)
  |_,_=>false
 |_=>false
def pw (ops:Array Oper):Bool:=q9 ops && !DB ops
def comp (T:Tables) (n:Nat):Code->Option QC
 |.skip=>some .skip
 |.label _=>some .skip
 |.region _ ops dr=>match gA T n ops.toList ops.toList with
  |some l=>match dr with
   |false=>some (.bB false l)
   |true=>match pw ops with
    |true=>some (.bB true l)
    |false=>some (.cB (nc ops) l)
  |none=>none
 |.seq a b=>match comp T n a,comp T n b with
  |some a',some b'=>some (.seq a' b')
  |_,_=>none
 |.cond c a b=>match comp T n a,comp T n b with
  |some a',some b'=>some (.cond (qo c) a' b')
  |_,_=>none
 |.block id a=>match comp T n a with
  |some a'=>some (.block id a')
  |none=>none
 |.scope a=>match comp T n a with
  |some a'=>some (.scope a')
  |none=>none
 |.loop a=>match comp T n a with
  |some a'=>some (.loop a')
  |none=>none
 |.exit id=>some (.exit id)
 |.ret=>some .ret
 |.rangeFunc f ps a b=>match comp T n a,comp T n b with
  |some a',some b'=>some (.qy (qo f) ps.toList a' b')
  |_,_=>none
 |c=>some (.raw c)
def bS (P:Program):Code->Bool
 |.region _ ops true=>P.follows .mixedOrders && (pw ops || jL ops)
 |.seq a b=>bS P a && bS P b
 |.cond _ a b=>bS P a && bS P b
 |.block _ a=>bS P a
 |.scope a=>bS P a
 |.loop a=>bS P a
 |.rangeFunc _ _ a b=>bS P a && bS P b
 |_=>true
inductive ji where
 |seq (c:QC)
 |nT (id:Nat)
 |rq
inductive QF where
 |run (c:QC) (K:List ji)
 |out (ex:Exit) (K:List ji)
 |bB (dr:Bool) (l:List QI) (K:List ji)
 |cB (B:Nat) (V:List (Nat × Nat)) (lg:List (List Nat × List Nat × Bool)) (rs:List Nat) (l:List QI) (K:List ji)
def ox (lg:List (List Nat × List Nat × Bool)) (i:Nat):List Nat × List Nat × Bool:=lg.getD i ([],[],false)
def dV:List QI->Nat->List Nat
 |[],_=>[]
 |i::l,x=>match i.q with|.alloc _=>x::dV l (x+1)|_=>dV l x
def w7 (G:Nat->Option Ob):List Nat->Nat->Option Ob
 |[]=>G
 |k::ks=>a6 (w7 G ks) k (some .un)
def ng (S:U) (l:List QI):U:=match S with|⟨G,x⟩=>⟨w7 G (dV l x),x+(dV l x).length⟩
def Iv (V:List (Nat × Nat)) (lg:List (List Nat × List Nat × Bool)):Bool:=V.all fun p=>dj (ox lg p.1) (ox lg p.2)
section
variable (P:Program) (w0:World) (rd:Bool) (n:Nat)
def ey (b:QC) (Q:Exit->AA->U->Prop) (α:AA) (S:U):Prop:=∀ c,comp P.toTables n c=some b->bS P c=true->Wp P w0 rd n c Q α S
def gC (Q:Exit->AA->U->Prop):List ji->Exit->AA->U->Prop
 |[]=>Q
 |.seq b::K=>fun ex α S=>match ex with|.normal=>ey P w0 rd n b (gC Q K) α S|e=>gC Q K e α S
 |.nT id::K=>fun ex α S=>match ex with|.exit j=>(match Nat.beq j id with|true=>gC Q K .normal α S|false=>gC Q K (.exit j) α S)|e=>gC Q K e α S
 |.rq::K=>fun ex α S=>match ex with|.goto _=>False|e=>gC Q K e α S
def uN (ops:Array Oper) (l:List Nat) (α:AA) (S:U) (ch:List PanicEntry) (af:AA) (S':U):Prop :=
 ∀ (F:Fence) (m:Nat) (A:Nat->Prop) (g:Gh) (a:Act) (w:World) (Q:Exit->Act->World->Prop),fM F->St w0 A g S w->aX g w n α a ->
  (∀ (a':Act) (w':World) (g':Gh),St w0 A g' S' w'->aX g' w' n af a'->Ext A g w g' w'->Q (.panic ch) a' w')->wpOpsIn F m P ops Q l a w
def nh (ops l:List Oper) (Q:AA->U->Prop) (E:List PanicEntry->AA->U->Prop) (α:AA) (S:U):Prop :=
 ∀ k,ops.drop k=l->(∃ af S',lq P w0 n ops.toArray (List.range' k l.length) α S af S'/\Q af S')\/∃ ch af S',uN P w0 n ops.toArray (List.range' k l.length) α S ch af S'/\E ch af S'
def dH (dr:Bool) (l:List QI) (Q:AA->U->Prop) (E:List PanicEntry->AA->U->Prop) (α:AA) (S:U):Prop :=
 ∀ ops rest,gA P.toTables n ops rest=some l->match dr with|false=>nh P w0 n ops rest Q E α S|true=>iF P w0 n ops rest Q α S
def ic (B:Nat) (V:List (Nat × Nat)) (lg:List (List Nat × List Nat × Bool)) (l:List QI) (Q:AA->U->Prop) (α:AA) (S:U):Prop :=
 ∀ ops:List Oper,gA P.toTables n ops (ops.drop lg.length)=some l->∃ (D:Nat->Dt) (af:AA) (S':U),ef P w0 n ops.toArray B D (List.range' lg.length l.length) α S af S'/\Iv V (lg++(List.range' lg.length l.length).map fun i=>(D i).ns)=true/\Q af S'
def ab (Q:Exit->AA->U->Prop):QF->AA->U->Prop
 |.run c K,α,S=>ey P w0 rd n c (gC P w0 rd n Q K) α S
 |.out ex K,α,S=>gC P w0 rd n Q K ex α S
 |.bB dr l K,α,S=>dH P w0 n dr l (fun α S=>gC P w0 rd n Q K .normal α S) (fun ch α S=>gC P w0 rd n Q K (.panic ch) α S) α S
 |.cB B V lg rs l K,α,S=>(∀ k ∈ rs,k < B)->B<=S.nx->ic P w0 n B V lg l (fun α S=>gC P w0 rd n Q K .normal α S) α S
def ca (f:Nat->AV):Option (Nat × Bool)->Option Bool
 |none=>some true
 |some (t,want)=>match f t with
  |.v (.bool true)=>some want
  |.v (.bool false)=>match want with|true=>some false|false=>some true
  |.v (.tuple _)=>some false
  |_=>none
def cH (d:Option Nat) (α:AA) (r:AV):AA:=match α,d with|⟨f,l⟩,some d=>⟨a6 f d r,l⟩|α,none=>α
def oy:QF->AA->U->Option (QF × AA × U)
 |.run c K,α,S=>match c with
  |.skip=>some (.out .normal K,α,S)
  |.bB false l=>some (.bB false l K,α,S)
  |.bB true l=>some (.bB true l K,α,S)
  |.cB V l=>match S with|⟨G,x⟩=>some (.cB (x+(dV l x).length) V [] (dV l x) l K,α,ng ⟨G,x⟩ l)
  |.seq a b=>some (.run a (.seq b::K),α,S)
  |.cond x a b=>match x.ev α.tm with
   |.v (.bool true)=>some (.run a K,α,S)
   |.v (.bool false)=>some (.run b K,α,S)
   |_=>none
  |.block id c=>some (.run c (.nT id::K),α,S)
  |.scope c=>some (.run c (.rq::K),α,S)
  |.exit id=>some (.out (.exit id) K,α,S)
  |.ret=>some (.out .ret K,α,S)
  |_=>none
 |.out ex K,α,S=>match K with
  |[]=>none
  |.seq b::K=>match ex with
   |.normal=>some (.run b K,α,S)
   |e=>some (.out e K,α,S)
  |.nT id::K=>match ex with
   |.exit j=>match Nat.beq j id with
    |true=>some (.out .normal K,α,S)
    |false=>some (.out (.exit j) K,α,S)
   |e=>some (.out e K,α,S)
  |.rq::K=>match ex with
   |.goto _=>none
   |e=>some (.out e K,α,S)
 |.bB dr l K,α,S=>match l with
  |[]=>some (.out .normal K,α,S)
  |i::l=>match ca α.tm i.g with
   |some true=>match dY i.q α.tm S with
    |some (r,S')=>some (.bB dr l K,cH i.d α r,S')
    |none=>none
   |some false=>some (.bB dr l K,cH i.d α (.v undef),S)
   |none=>none
 |.cB B V lg rs l K,α,S=>match l with
  |[]=>match Iv V lg with
   |true=>some (.out .normal K,α,S)
   |false=>none
  |i::l=>match ca α.tm i.g with
   |some true=>match dq i.q α.tm S rs with
    |some (r,d,iU)=>some (.cB B V (lg++[d.ns]) iU l K,cH i.d α r,cD S d.W d.m)
    |none=>none
   |some false=>some (.cB B V (lg++[([],[],false)]) rs l K,cH i.d α (.v undef),S)
   |none=>none
end
section
variable {P:Program}{w0:World}{rd:Bool}{n:Nat}{α af:AA}{S S':U}{Q Q':Exit->AA->U->Prop}{ex:Exit}{r:AV}{i:QI}{l:List QI}{R:AA->U->Prop}{E:List PanicEntry->AA->U->Prop}
theorem jM {d:Option Nat}:cH d α r=om d α r:=by cases d<;>cases α<;>rfl
theorem iV {ops rest:List Oper}(h:gA P.toTables n ops rest=some (i::l)):∃ o g_,rest=o::g_/\gA P.toTables n ops g_=some l/\kR n o.dst=true/\o.dst=i.d/\res P.toTables o.op=some i.q /\
  (∀ b,ca α.tm i.g=some b->eW ops α o=some b):=by
 cases rest with
 |nil=>cases h
 |cons o g_ =>
  simp only [gA] at h
  split at h
  ·rename_i q l' h1 h2 h3
   split at h
   ·rename_i hg
    injection h with h
    injection h with h4 h5
    subst h4 h5
    exact⟨o,g_,rfl,h3,h1,rfl,h2,fun b hb=>by simp only [ca,Option.some.injEq] at hb;subst hb;simp only [eW,hg]⟩
   ·rename_i j want hg
    split at h
    ·rename_i t ht
     injection h with h
     injection h with h4 h5
     subst h4 h5
     refine⟨o,g_,rfl,h3,h1,rfl,h2,fun b hb=>?_⟩
     simp only [eW,hg,FA,ht]
     simp only [ca] at hb
     split at hb
     ·rename_i e;rw [e];exact hb
     ·rename_i e;rw [e];cases want<;>exact hb
     ·rename_i e;rw [e];exact hb
     ·cases hb
    ·cases h
  ·cases h
theorem dH.nil {dr:Bool}(h:R α S):dH P w0 n dr [] R E α S:=by
 intro ops rest hc
 have:rest=[]:=by
  cases rest with
  |nil=>rfl
  |cons o r =>
   simp only [gA] at hc
   repeat' split at hc
   all_goals cases hc
 subst this
 cases dr with
 |false=>exact fun k hk=>.inl (Dy.nil (ops:=ops) h k hk)
 |true=>exact iF.nil h
def w8 (P:Program) (w0:World) (n:Nat) (o:Oper) (α:AA) (S:U) (r:AV) (S':U):Prop :=
 cP P w0 n o (α.only (cb o)) S r S'/\(fk o.op=true->S'=S/\∀ S,cP P w0 n o (α.only (cb o)) S r S)/\(ra o.op=false->S'=S)
theorem w8.O5 {o:Oper}(h:pQ P w0 o.op α S (nS r S')):w8 P w0 n o α S r S':=by
 cases hp:fk o.op with
 |true =>
  obtain⟨r2,h1,h2⟩:=K_ hp (Fz h)
  obtain⟨rfl,rfl⟩:=h1
  have h3:∀ T,cP P w0 n o (α.only (cb o)) T r2 T:=fun T=>by
   obtain⟨r',S',h4,rfl,rfl⟩:=kQ (n:=n) (h2 T)
   exact h4
  exact⟨h3 _,fun _=>⟨rfl,h3⟩,fun _=>rfl⟩
 |false =>
  cases hw:ra o.op with
  |false =>
   obtain⟨r2,h1,h2⟩:=K7 hp hw h
   obtain⟨rfl,rfl⟩:=h1
   obtain⟨r',S',h4,rfl,rfl⟩:=kQ (n:=n) h2
   exact⟨h4,fun h=>(by rw [hp] at h;cases h),fun _=>rfl⟩
  |true =>
   obtain⟨r2,S2,h1,rfl,rfl⟩:=kQ (n:=n) (Fz h)
   exact⟨h1,fun h=>(by rw [hp] at h;cases h),fun h=>(by rw [hw] at h;cases h)⟩
theorem iF.Sh {o:Oper}{rest ops:List Oper}{Q:AA->U->Prop}(hd:kR n o.dst=true) (hw:eW ops α o=some true) (h:w8 P w0 n o α S r S') (k:iF P w0 n ops rest Q (om o.dst α r) S'):iF P w0 n ops (o::rest) Q α S:=by
 intro i hi
 obtain⟨h1,h2⟩:=drop_cons hi
 obtain⟨af,T,h4,h5⟩:=k (i+1) h2
 rw [pk] at h4
 exact⟨af,T,.cons ⟨o,h1,hd,.inr ⟨m8 hw,r,rfl,h⟩⟩ h4,h5⟩
def aa (P:Program) (w0:World) (dr:Bool) (q:cj) (α:AA) (S:U) (r:AV) (S':U):Prop :=
 match dr with
 |true=>∀ (n:Nat) (o:Oper),res P.toTables o.op=some q->w8 P w0 n o α S r S'
 |false=>∀ (n:Nat) (o:Oper),res P.toTables o.op=some q->cP P w0 n o α S r S'
theorem cP.tt {n:Nat}{o:Oper}(h:aE P w0 o.op α S (nS r S')):cP P w0 n o α S r S':=by
 obtain⟨r1,S1,h3,rfl,rfl⟩:=ti (n:=n) h
 exact h3
theorem aa.run {q:cj}(h:∀ (n:Nat) (o:Oper),res P.toTables o.op=some q->aC P w0 n o α S r S'):aa P w0 false q α S r S':=fun n o hr=>(h n o hr).ops fun c e=>by rw [e] at hr;cases hr
theorem uN.step {ops:Array Oper}{i:Nat}{o:Oper}{rest:List Nat}{af:AA}{bQ:U}{ch:List PanicEntry}(hi:ops[i]?=some o) (hd:(match o.dst with|some d=>Nat.blt d n|none=>true)=true)
  (hw:∀ (g:Gh) (w:World) (a:Act),aX g w n α a->Region.wanted o (yielded ops a.tmps)=true) (h:cP P w0 n o α S r bQ) (k:uN P w0 n ops rest (α.put o.dst r) bQ ch af S'):uN P w0 n ops (i::rest) α S ch af S':=by
 intro F m A g a w Q hF hS hA hQ
 simp only [wpOpsIn,hi]
 rw [if_pos (hw g w a hA)]
 refine⟨fun f _=>hF.1 f,h F m A g a w _ Q hF hS hA fun v w' g' hr ew hE=>?_⟩
 exact k F m A g' _ w' Q hF ew (gu (hA.later hE.toLater) hd hr) fun a' mG rm h1 h2 h3=>hQ a' mG rm h1 h2 (hE.trans h3)
theorem tv {ops:List Oper}{o:Oper}(hw:eW ops α o=some true) (g:Gh) (w:World) (a:Act) (hA:aX g w n α a):Region.wanted o (yielded ops.toArray a.tmps)=true:=by
 rcases m8 hw with hg|⟨j,want,hg,hy⟩
 ·simp [Region.wanted,hg]
 ·simp [Region.wanted,hg,kh hA hy]
theorem nh.lu {o:Oper}{rest ops:List Oper}{Q:AA->U->Prop}(hd:kR n o.dst=true) (hw:eW ops α o=some true) (h:cP P w0 n o α S r S') (k:nh P w0 n ops rest Q E (om o.dst α r) S'):nh P w0 n ops (o::rest) Q E α S:=by
 intro i hi
 obtain⟨h1,h2⟩:=drop_cons hi
 have h3:=k (i+1) h2
 rw [pk] at h3
 exact h3.imp (fun ⟨af,T,h4,h5⟩=>⟨af,T,lq.step h1 hd (tv hw) h h4,h5⟩) fun ⟨ch,af,T,h4,h5⟩=>⟨ch,af,T,uN.step h1 hd (tv hw) h h4,h5⟩
theorem nh.skip {o:Oper}{rest ops:List Oper}{Q:AA->U->Prop}(hd:kR n o.dst=true) (hw:eW ops α o=some false) (k:nh P w0 n ops rest Q E (om o.dst α (.v undef)) S):nh P w0 n ops (o::rest) Q E α S:=by
 intro i hi
 obtain⟨h1,h2⟩:=drop_cons hi
 have h3:=k (i+1) h2
 rw [pk] at h3
 obtain⟨j,want,b,hg,hy,aM⟩:=pR hw
 have tp:∀ (g:Gh) (w:World) (a:Act),aX g w n α a->¬ Region.wanted o (yielded ops.toArray a.tmps)=true:=fun g w a hA=>by simp [Region.wanted,hg,kh hA hy,aM]
 refine h3.imp (fun ⟨af,T,h4,h5⟩=>⟨af,T,fun F m A g a w Q hF hS hA hQ=>?_,h5⟩) fun ⟨ch,af,T,h4,h5⟩=>⟨ch,af,T,fun F m A g a w Q hF hS hA hQ=>?_,h5⟩
 ·show wpOpsIn F m P ops.toArray Q (i::List.range' (i+1) rest.length) a w
  simp only [wpOpsIn,h1]
  rw [if_neg (tp g w a hA)]
  exact⟨fun f _=>hF.1 f,h4 F m A g _ w Q hF hS (gu hA hd .v) hQ⟩
 ·show wpOpsIn F m P ops.toArray Q (i::List.range' (i+1) rest.length) a w
  simp only [wpOpsIn,h1]
  rw [if_neg (tp g w a hA)]
  exact⟨fun f _=>hF.1 f,h4 F m A g _ w Q hF hS (gu hA hd .v) hQ⟩
def P3:cj->Bool
 |.call ..=>true
 |_=>false
theorem aa.of {dr:Bool}{q:cj}(hq:P3 q=false) (h:∀ o,res P.toTables o=some q->aE P w0 o α S (nS r S')):aa P w0 dr q α S r S':=by
 cases dr with
 |false=>exact fun n o hr=>cP.tt (h o.op hr)
 |true =>
  intro n o hr
  refine w8.O5 ?_
  have h1:=h o.op hr
  generalize o.op=op at hr h1
  cases op with
  |call c =>
   simp only [pQ]
   split
   ·rename_i f hc
    simp only [res,hc,Option.some.injEq] at hr
    subst hr
    cases hq
   ·exact h1
  |_=>exact h1
theorem dH.op {dr:Bool}(hw:ca α.tm i.g=some true) (h:aa P w0 dr i.q α S r S') (k:dH P w0 n dr l R E (cH i.d α r) S'):dH P w0 n dr (i::l) R E α S:=by
 intro ops rest hc
 obtain⟨o,g_,rfl,h1,h2,h3,h4,h5⟩:=iV (α:=α) hc
 have h7:=k ops g_ h1
 rw [jM,<-h3] at h7
 cases dr with
 |false=>exact nh.lu h2 (h5 _ hw) (h n o h4) h7
 |true=>exact iF.Sh h2 (h5 _ hw) (h n o h4) h7
theorem dH.skip {dr:Bool}(hw:ca α.tm i.g=some false) (k:dH P w0 n dr l R E (cH i.d α (.v undef)) S):dH P w0 n dr (i::l) R E α S:=by
 intro ops rest hc
 obtain⟨o,g_,rfl,h1,h2,h3,h4,h5⟩:=iV (α:=α) hc
 have h7:=k ops g_ h1
 rw [jM,<-h3] at h7
 cases dr with
 |false=>exact nh.skip h2 (h5 _ hw) h7
 |true=>exact iF.skip h2 (h5 _ hw) h7
def OpP (P:Program) (w0:World) (n:Nat) (o:Oper) (α:AA) (S:U) (ch:List PanicEntry) (S':U):Prop :=
 ∀ (F:Fence) (m:Nat) (A:Nat->Prop) (g:Gh) (a:Act) (w:World) (next:Act->World->Prop) (Q:Exit->Act->World->Prop),fM F->St w0 A g S w->aX g w n α a ->
  (∀ (w':World) (g':Gh),St w0 A g' S' w'->Ext A g w g' w'->Q (.panic ch) a w')->o.uponIn F m P a next Q ((o.semAt F.round a.eval).run P w)
def OweP (P:Program) (w0:World) (q:cj) (α:AA) (S:U) (ch:List PanicEntry) (S':U):Prop:=∀ (n:Nat) (o:Oper),res P.toTables o.op=some q->OpP P w0 n o α S ch S'
theorem aa.quiet {dr:Bool}{q:cj}(h:dY q α.tm S=some (r,S')):aa P w0 dr q α S r S':=by
 refine aa.of ?_ fun o hr=>kf hr h
 cases q<;>first|rfl|(cases h)
theorem DC {c:Code}{dr:Bool}(h:comp P.toTables n c=some (.bB dr l)):∃ id ops,c=.region id ops dr/\gA P.toTables n ops.toList ops.toList=some l/\(dr=true->pw ops=true):=by
 cases c<;>simp only [comp] at h<;>(repeat' split at h)<;>(try cases h)
 ·exact⟨_,_,rfl,by assumption,fun e=>by cases e⟩
 ·exact⟨_,_,rfl,by assumption,fun _=>by assumption⟩
theorem DD {c:Code}{V:List (Nat × Nat)}(h:comp P.toTables n c=some (.cB V l)):∃ id ops,c=.region id ops true/\gA P.toTables n ops.toList ops.toList=some l/\pw ops=false/\V=nc ops:=by
 cases c<;>simp only [comp] at h<;>(repeat' split at h)<;>(try cases h)
 ·exact⟨_,_,rfl,by assumption,by assumption,rfl⟩
theorem DE {c:Code}{a b:QC}(h:comp P.toTables n c=some (.seq a b)):∃ c1 c2,c=.seq c1 c2/\comp P.toTables n c1=some a/\comp P.toTables n c2=some b:=by
 cases c<;>simp only [comp] at h<;>(repeat' split at h)<;>(try cases h)
 ·exact⟨_,_,rfl,by assumption,by assumption⟩
theorem Cj {c:Code}{x:QO}{a b:QC}(h:comp P.toTables n c=some (.cond x a b)):∃ y c1 c2,c=.cond y c1 c2/\qo y=x/\comp P.toTables n c1=some a/\comp P.toTables n c2=some b:=by
 cases c<;>simp only [comp] at h<;>(repeat' split at h)<;>(try cases h)
 ·exact⟨_,_,_,rfl,rfl,by assumption,by assumption⟩
theorem yw {c:Code}{id:Nat}{a:QC}(h:comp P.toTables n c=some (.block id a)):∃ c1,c=.block id c1/\comp P.toTables n c1=some a:=by
 cases c<;>simp only [comp] at h<;>(repeat' split at h)<;>(try cases h)
 ·exact⟨_,rfl,by assumption⟩
theorem yx {c:Code}{a:QC}(h:comp P.toTables n c=some (.scope a)):∃ c1,c=.scope c1/\comp P.toTables n c1=some a:=by
 cases c<;>simp only [comp] at h<;>(repeat' split at h)<;>(try cases h)
 ·exact⟨_,rfl,by assumption⟩
theorem Ck {c:Code}{a:QC}(h:comp P.toTables n c=some (.loop a)):∃ c1,c=.loop c1/\comp P.toTables n c1=some a:=by
 cases c<;>simp only [comp] at h<;>(repeat' split at h)<;>(try cases h)
 ·exact⟨_,rfl,by assumption⟩
theorem ni {c:Code}:(comp P.toTables n c=some .skip->Cl c)/\(comp P.toTables n c=some .ret->c=.ret)/\∀ id,comp P.toTables n c=some (.exit id)->c=.exit id:=by
 refine⟨fun h=>?_,fun h=>?_,fun id h=>?_⟩
 all_goals
  cases c<;>simp only [comp] at h<;>(repeat' split at h)<;>(try cases h)<;>first|rfl|exact .inl rfl|exact .inr ⟨_,rfl⟩
theorem FH {x:Operand}:α.ev x=(qo x).ev α.tm:=(ay x).symm
theorem ey.seq {a b:QC}(h:ey P w0 rd n a (fun ex α S=>match ex with|.normal=>ey P w0 rd n b Q α S|e=>Q e α S) α S):ey P w0 rd n (.seq a b) Q α S:=by
 intro c hc hd
 obtain⟨c1,c2,rfl,h1,h2⟩:=DE hc
 simp only [bS,Bool.and_eq_true] at hd
 refine Wp.seq ?_
 obtain⟨ex,bD,bQ,h3,h4⟩:=h c1 h1 hd.1
 refine⟨ex,bD,bQ,h3,?_⟩
 cases ex with
 |normal=>exact h4 c2 h2 hd.2
 |_=>exact h4
theorem ey.cond {x:QO}{a b:QC}{t:Bool}(hx:x.ev α.tm=.v (.bool t)) (h:ey P w0 rd n (if t then a else b) Q α S):ey P w0 rd n (.cond x a b) Q α S:=by
 intro c hc hd
 obtain⟨y,c1,c2,rfl,rfl,h1,h2⟩:=Cj hc
 simp only [bS,Bool.and_eq_true] at hd
 refine Wp.cond (by rw [FH];exact hx) ?_
 cases t with
 |true=>exact h c1 h1 hd.1
 |false=>exact h c2 h2 hd.2
theorem ey.block {id:Nat}{a:QC}(h:ey P w0 rd n a (fun ex α S=>match ex with|.exit j=>(match Nat.beq j id with|true=>Q .normal α S|false=>Q (.exit j) α S)|e=>Q e α S) α S):ey P w0 rd n (.block id a) Q α S:=by
 intro c hc hd
 obtain⟨c1,rfl,h1⟩:=yw hc
 exact Wp.block (h c1 h1 hd)
theorem ey.scope {a:QC}(h:ey P w0 rd n a (fun ex α S=>match ex with|.goto _=>False|e=>Q e α S) α S):ey P w0 rd n (.scope a) Q α S:=by
 intro c hc hd
 obtain⟨c1,rfl,h1⟩:=yx hc
 obtain⟨ex,bD,bQ,h2,h3⟩:=h c1 h1 hd
 cases ex with
 |goto l=>exact h3.elim
 |_=>exact⟨_,bD,bQ,bA.scope h2 (fun l e=>by cases e),h3⟩
theorem ey.bB {dr:Bool}(h:dH P w0 n dr l (fun α S=>Q .normal α S) (fun ch α S=>Q (.panic ch) α S) α S):ey P w0 rd n (.bB dr l) Q α S:=by
 intro c hc hd
 obtain⟨id,ops,rfl,h1,kH⟩:=DC hc
 have h2:=h _ _ h1
 cases dr with
 |false =>
  rcases h2 0 rfl with ⟨af,S',h3,h4⟩|⟨ch,af,S',h3,h4⟩
  ·rw [Array.length_toList,<-List.range_eq_range'] at h3
   exact⟨_,af,S',bA.region h3,h4⟩
  ·rw [Array.length_toList,<-List.range_eq_range'] at h3
   exact⟨.panic ch,af,S',fun F m A g a w hF hR hS hA=>wpIn_region (h3 F m A g a w _ hF hS hA fun a' w' g' q1 q2 q3=>⟨rfl,g',q1,q2,q3⟩),h4⟩
 |true=>exact iF.wp (by simp only [bS,Bool.and_eq_true] at hd;simp only [Bool.and_eq_true];exact⟨hd.1,((Bool.and_eq_true _ _).mp (kH rfl)).1⟩) h2
theorem tw {G:Nat->Option Ob}:∀ {ks:List Nat}{k:Nat},k ∉ ks->w7 G ks k=G k
 |[],_,_=>rfl
 |p::ks,k,h=>by
  simp only [List.mem_cons,not_or] at h
  rw [w7,aw _ _ h.1,tw h.2]
theorem lv:∀ {l:List QI}{x k:Nat},k ∈ dV l x->x<=k/\k < x+(dV l x).length
 |[],x,k,h=>by cases h
 |i::l,x,k,h=>by
  simp only [dV] at h ⊢
  split at h
  ·rename_i e
   simp only [e,List.length_cons]
   rcases List.mem_cons.1 h with rfl|h
   ·omega
   ·have:=lv h;omega
  ·rename_i e
   exact lv h
theorem St.O6 {A:Nat->Prop}{g:Gh}{w:World}(hS:St w0 A g S w) (l:List QI):St w0 A g (ng S l) w:=by
 obtain⟨G,x⟩:=S
 refine hS.forget (Nat.le_add_right _ _) fun k o hk ha=>?_
 have au:=hS.al k ha
 have au:k < x:=au
 have hk:w7 G (dV l x) k=some o:=hk
 rwa [tw fun hm=>by have:=(lv hm).1;omega] at hk
theorem ey.cB {V:List (Nat × Nat)}(h:(∀ k ∈ dV l S.nx,k < S.nx+(dV l S.nx).length)->S.nx+(dV l S.nx).length<=(ng S l).nx->ic P w0 n (S.nx+(dV l S.nx).length) V [] l (fun α S=>Q .normal α S) α (ng S l)):ey P w0 rd n (.cB V l) Q α S:=by
 intro c hc hd
 obtain⟨id,ops,rfl,h1,h2,rfl⟩:=DD hc
 simp only [bS,Bool.and_eq_true,Bool.or_eq_true,h2,Bool.false_eq_true,false_or] at hd
 have hl:l.length=ops.size:=by
  have key:∀ (ops rest:List Oper) (l:List QI),gA P.toTables n ops rest=some l->l.length=rest.length:=by
   intro ops rest
   induction rest with
   |nil=>intro l h;obtain rfl:=Option.some.inj h;rfl
   |cons o rest ih =>
    intro l h
    cases l with
    |nil =>
     exfalso
     simp only [gA] at h
     split at h
     ·split at h
      ·cases h
      ·split at h<;>cases h
     ·cases h
    |cons i l =>
     obtain⟨o',g_,e,h3,_⟩:=iV (α:=α) h
     injection e with e1 e2
     subst e1 e2
     simp [ih _ h3]
  rw [key _ _ _ h1];simp
 obtain⟨D,af,S',h3,h4,h5⟩:=h (fun k hk=>(lv hk).2) (by cases S;exact Nat.le_refl _) ops.toList h1
 simp only [List.length_nil,hl,List.nil_append] at h3 h4
 rw [<-List.range_eq_range'] at h3 h4
 refine⟨.normal,af,S',fun F m A g a w hF hR hS hA=>?_,h5⟩
 refine bA.K9 hd.1 hd.2 (fun p hp=>?_) h3 F m A g a w hF hR (hS.O6 l) hA
 have h6:=List.all_eq_true.1 h4 p hp
 have fK:=(List.mem_filter.1 hp).1
 have Si:∀ {m:List Nat}{k:Nat}{q:Nat × Nat},q ∈ lZ ops m k->q.1 < k/\q.2 < k:=by
  intro m k q
  induction k with
  |zero=>intro h;cases h
  |succ k ih =>
   intro h
   simp only [lZ,List.mem_append,List.mem_map,List.mem_filter,List.mem_range] at h
   rcases h with ⟨x,⟨hx,_⟩,rfl⟩|h
   ·exact⟨by simp only;omega,by simp only;omega⟩
   ·have:=ih h;omega
 obtain⟨k1,k2⟩:=Si fK
 have get:∀ i,i < ops.size->ox ((List.range ops.size).map fun i=>(D i).ns) i=(D i).ns:=fun i hi=>by
  unfold ox
  rw [List.getD_eq_getElem?_getD,List.getElem?_map,List.getElem?_range hi]
  rfl
 rw [get _ k1,get _ k2] at h6
 exact h6
theorem ef.congr {B:Nat}{ops:Array Oper}{D D':Nat->Dt}:∀ {L:List Nat}{α af:AA}{S S':U},(∀ i ∈ L,D i=D' i)->ef P w0 n ops B D L α S af S'->ef P w0 n ops B D' L α S af S'
 |[],_,_,_,_,_,.nil ..=>.nil ..
 |i::rest,_,_,_,_,he,.cons h t=>.cons (by rw [<-he i (by simp)];exact h) (t.congr fun j hj=>he j (by simp [hj]))
theorem gN {ops:List Oper}{k:Nat}{o:Oper}{rest:List Oper}(h:ops.drop k=o::rest):ops.toArray[k]?=some o/\ops.drop (k+1)=rest:=drop_cons h
theorem ic.step {B:Nat}{V:List (Nat × Nat)}{lg:List (List Nat × List Nat × Bool)}{d:Dt}{α1:AA}{S1:U}{R:AA->U->Prop}
  (hg:∀ ops o rest,ops.drop lg.length=o::rest->kR n o.dst=true->o.dst=i.d->res P.toTables o.op=some i.q->(∀ b,ca α.tm i.g=some b->eW ops α o=some b)->ir P w0 n ops.toArray B lg.length d α S α1 S1)
  (k:ic P w0 n B V (lg++[d.ns]) l R α1 S1):ic P w0 n B V lg (i::l) R α S:=by
 intro ops hr
 obtain⟨o,rest,h1,h2,h3,h4,h5,h6⟩:=iV (α:=α) hr
 obtain⟨h7,h8⟩:=gN h1
 obtain⟨D,af,S',k1,k2,k3⟩:=k ops (by rw [List.length_append,List.length_singleton,h8];exact h2)
 simp only [List.length_append,List.length_singleton] at k1 k2
 refine⟨fun i=>if i=lg.length then d else D i,af,S',?_,?_,k3⟩
 ·rw [List.length_cons,List.range'_succ]
  refine .cons (by rw [if_pos rfl];exact hg ops o rest h1 h3 h4 h5 h6) (k1.congr fun i hi=>?_)
  have:=(List.mem_range'_1.1 hi).1
  rw [if_neg (by omega)]
 ·rw [List.length_cons,List.range'_succ,List.map_cons]
  simp only [if_pos]
  have e:((List.range' (lg.length+1) l.length).map fun i=>(if i=lg.length then d else D i).ns)=(List.range' (lg.length+1) l.length).map fun i=>(D i).ns:=List.map_congr_left fun i hi=>by
   have:=(List.mem_range'_1.1 hi).1
   rw [if_neg (by omega)]
  rw [e]
  rw [List.append_assoc] at k2
  exact k2
theorem ru {ops:List Oper}{o:Oper}{b:Bool}(h:eW ops α o=some b):(b=true->o.guard=none\/∃ j want,o.guard=some (j,want)/\je ops.toArray α j=some (some want))/\(b=false->∃ j want c,o.guard=some (j,want)/\je ops.toArray α j=some c/\c ≠ some want):=by
 refine⟨fun e=>m8 (by rw [<-e];exact h),fun e=>?_⟩
 subst e
 unfold eW at h
 split at h
 ·cases h
 ·rename_i j want hg
  split at h
  ·rename_i hy
   have:=Option.some.inj h
   subst this
   exact⟨j,false,some true,hg,by rw [<-oo];exact hy,by simp⟩
  ·rename_i hy
   have:=Option.some.inj h
   cases want with
   |true=>exact⟨j,true,some false,hg,by rw [<-oo];exact hy,by simp⟩
   |false=>simp at this
  ·rename_i hy
   exact⟨j,want,none,hg,by rw [<-oo];exact hy,by simp⟩
  ·cases h
theorem ic.op {B:Nat}{V:List (Nat × Nat)}{lg:List (List Nat × List Nat × Bool)}{d:Dt}{R:AA->U->Prop}(hB:B<=S.nx) (hw:ca α.tm i.g=some true) (h:bC P w0 B i.q α S r d) (k:ic P w0 n B V (lg++[d.ns]) l R (cH i.d α r) (cD S d.W d.m)):ic P w0 n B V lg (i::l) R α S:=by
 refine ic.step (fun ops o rest h1 h2 h3 h4 h5=>?_) k
 obtain⟨k1,k2,k3⟩:=h n o h4
 exact⟨o,(gN h1).1,h2,k1,hB,k2,rfl,.inr ⟨(ru (h5 _ hw)).1 rfl,r,by rw [jM,<-h3];cases o.dst<;>rfl,fun T hb ht hm=>k3 T hb ht hm⟩⟩
theorem ic.skip {B:Nat}{V:List (Nat × Nat)}{lg:List (List Nat × List Nat × Bool)}{R:AA->U->Prop}(hB:B<=S.nx) (hw:ca α.tm i.g=some false) (k:ic P w0 n B V (lg++[([],[],false)]) l R (cH i.d α (.v undef)) S):ic P w0 n B V lg (i::l) R α S:=by
 refine ic.step (d:=.none_) (fun ops o rest h1 h2 h3 h4 h5=>?_) k
 obtain⟨j,want,c,e1,e2,e3⟩:=(ru (h5 _ hw)).2 rfl
 exact⟨o,(gN h1).1,h2,fun _=>rfl,hB,(show gJ S [] from fun p hp=>by cases hp),bH.symm,.inl ⟨j,want,c,e1,e2,e3,by rw [jM,<-h3];cases o.dst<;>rfl,rfl⟩⟩
theorem ey.done {a:QC}(hd:∀ c,comp P.toTables n c=some a->Wp P w0 rd n c Q α S):ey P w0 rd n a Q α S:=fun c hc _=>hd c hc
theorem Cm {cf lx:QF}(h:oy cf α S=some (lx,af,S')) (k:ab P w0 rd n Q lx af S'):ab P w0 rd n Q cf α S:=by
 have e:∀ {x:QF}{y:AA}{z:U},some (x,y,z)=some (lx,af,S')->ab P w0 rd n Q x y z:=fun h=>by
  simp only [Option.some.injEq,Prod.mk.injEq] at h
  obtain⟨rfl,rfl,rfl⟩:=h
  exact k
 cases cf with
 |run c K =>
  simp only [oy] at h
  split at h
  ·exact ey.done fun c hc=>Wp.of (bA.skip (ni.1 hc)) (e h)
  ·exact ey.bB (e h)
  ·exact ey.bB (e h)
  ·rename_i V l
   cases S with
   |mk G x =>
    simp only [Option.some.injEq,Prod.mk.injEq] at h
    obtain⟨rfl,rfl,rfl⟩:=h
    exact ey.cB fun h1 h2=>k h1 h2
  ·exact ey.seq (e h)
  ·split at h
   ·rename_i hc;exact ey.cond hc (e h)
   ·rename_i hc;exact ey.cond hc (e h)
   ·cases h
  ·exact ey.block (e h)
  ·exact ey.scope (e h)
  ·exact ey.done fun c hc=>by rw [ni.2.2 _ hc];exact Wp.of (bA.exit_ _) (e h)
  ·exact ey.done fun c hc=>by rw [ni.2.1 hc];exact Wp.of bA.ret (e h)
  ·cases h
 |out ex K =>
  cases K with
  |nil=>simp [oy] at h
  |cons it K =>
   cases it with
   |seq b=>cases ex<;>(simp only [oy] at h;have t:=e h;exact t)
   |nT id =>
    cases ex with
    |exit j =>
     simp only [oy] at h
     show (match Nat.beq j id with|true=>gC P w0 rd n Q K .normal α S|false=>gC P w0 rd n Q K (.exit j) α S)
     split at h
     ·have t:=e h;exact t
     ·have t:=e h;exact t
    |_=>simp only [oy] at h;have t:=e h;exact t
   |rq =>
    cases ex with
    |goto l=>simp [oy] at h
    |_=>simp only [oy] at h;have t:=e h;exact t
 |bB dr l K =>
  simp only [oy] at h
  split at h
  ·exact dH.nil (e h)
  ·rename_i i l
   split at h
   ·rename_i hw
    split at h
    ·rename_i r T hq
     exact dH.op hw (aa.quiet hq) (e h)
    ·cases h
   ·rename_i hw
    exact dH.skip hw (e h)
   ·cases h
 |cB B V lg rs l K =>
  intro fZ hB
  simp only [oy] at h
  split at h
  ·split at h
   ·rename_i hc
    have h1:=e h
    exact fun ops _=>⟨fun _=>.none_,α,S,.nil ..,by simpa using hc,h1⟩
   ·cases h
  ·rename_i i l
   split at h
   ·rename_i hw
    split at h
    ·rename_i r d iU hq
     obtain⟨h1,h2⟩:=qx (P:=P) (w0:=w0) (df:=α.df) fZ hq
     exact ic.op hB hw h1 (e h (fun k hk=>fZ k (h2 k hk)) (by rw [cJ];exact Nat.le_trans hB (Nat.le_add_right _ _)))
    ·cases h
   ·rename_i hw
    exact ic.skip hB hw (e h fZ hB)
   ·cases h
end
end Go.Proofs.YtbofilglphfceaaGreat
