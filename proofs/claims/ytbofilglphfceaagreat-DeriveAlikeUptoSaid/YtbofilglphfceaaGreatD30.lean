import Derived.Test.YtbofilglphfceaaGreatD28
namespace Go.Proofs.YtbofilglphfceaaGreat
set_option linter.unusedVariables false
set_option linter.unusedSimpArgs false
open Go.RowKit
section
variable {P:Program}{w0:World}{n:Nat}{α:AA}{S S' N:U}{r:AV}
theorem St.Gy {A:Nat->Prop}{g:Gh}{w:World}(hS:St w0 A g S w) (hN:∀ k o,N.get k=some o->S.get k=some o) (hx:S.nx<=S'.nx) (h':∀ k o,S'.get k=some o->S.get k=some o/\N.get k=none) :
  Ext A g w (g.still N) w/\St w0 A (g.still N) S' w:=by
 have tC:∀ b q,(g.still N).fz b q ↔ (g.fz b q\/∃ k sz rows fz ex,N.get k=some (.arr sz rows fz ex)/\g.al k/\b=g.ob k/\q < rows.length*sz):=fun b q=>Iff.rfl
 have hL:Later g w (g.still N) w:=⟨fun _ h=>h,fun _ _=>rfl,fun _ _=>rfl,fun b q h=>.inl h,fun _ _ _=>rfl⟩
 have IN:∀ k o q,S'.get k=some o->g.al k->(g.still N).fz (g.ob k) q->g.fz (g.ob k) q:=fun k o q hk ha hq=>by
  rcases (tC _ q).1 hq with hq|⟨j,sz,rows,fz,ex,hj,aY,e,_⟩
  ·exact hq
  ·obtain⟨k1,k2⟩:=h' k o hk
   have:=hS.inj k j _ _ k1 (hN j _ hj) ha aY e
   rw [this,hj] at k2
   cases k2
 refine⟨{ hL with size:=Nat.le_refl _,bR:=fun _ _ _=>rfl,eu:=fun b q hq=>?_ },⟨hS.base,hS.up,hS.lo,fun k hk=>Nat.lt_of_lt_of_le (hS.al k hk) hx,fun k o hk ha=>?_,fun i j o p hi hj ai aj e=>hS.inj i j o p (h' i o hi).1 (h' j p hj).1 ai aj e,fun b q hq=>?_,fun b q hb=>.inl (hS.j7 b q hb),
  fun k J hk ha c hc=>hS.eM k J (h' k _ hk).1 ha c hc,fun k J j o hk ha hj aj aM hc=>hS.fW k J j o (h' k _ hk).1 ha (h' j o hj).1 aj aM hc,fun j k J J' hj hk aj ak=>hS.iQ j k J J' (h' j _ hj).1 (h' k _ hk).1 aj ak⟩⟩
 ·rcases (tC b q).1 hq with hq|⟨k,sz,rows,fz,ex,hk,aY,rfl,_⟩
  ·exact .inl hq
  ·exact .inr (hS.bE k _ (hN k _ hk) aY).1
 ·obtain⟨k2,k3,k4⟩:=hS.bE k o (h' k o hk).1 ha
  refine⟨k2,k3,k4.later hL rfl (fun q hq=>IN k o q hk ha hq) fun J hJ=>⟨rfl,Nat.le_refl _,fun _ _=>rfl,fun c q hc hq=>?_⟩⟩
  rcases (tC c q).1 hq with hq|⟨j,sz,rows,fz,ex,hj,aY,rfl,_⟩
  ·exact hq
  ·subst hJ
   refine absurd hc (hS.fW k J j _ (h' k _ hk).1 ha (hN j _ hj) aY fun e=>?_)
   have:=(h' k _ hk).2
   rw [<-e,hj] at this
   cases this
 ·rcases (tC b q).1 hq with hq|⟨k,sz,rows,fz,ex,hk,aY,rfl,_⟩
  ·exact hS.bM b q hq
  ·exact (hS.bE k _ (hN k _ hk) aY).2.1
theorem oF.Gy {k:Nat}{args bz:List AV}{Pv:U}(hN:∀ k o,N.get k=some o->S.get k=some o) (hx:S.nx<=S'.nx) (h':∀ k o,S'.get k=some o->S.get k=some o/\N.get k=none) (hf:gz N args bz) (h:oF P w0 k bz S' r Pv):oF P w0 k args S r Pv:=by
 intro F m A g xs w hF hS aY hA
 obtain⟨hE,ew⟩:=hS.Gy hN hx h'
 have Ur:St w0 A g N w->True:=fun _=>trivial
 have Ef:ia (g.still N) w bz xs:=by
  refine⟨hA.1.trans hf.len,fun i a x ha hx=>?_⟩
  have hi:i < args.length:=by rw [hf.len];exact (List.getElem?_eq_some_iff.1 ha).1
  have h0:=List.getElem?_eq_getElem hi
  have Jz:St w0 A g ⟨N.get,S.nx⟩ w:=hS.forget (Nat.le_refl _) fun j p hj _=>hN j p hj
  have hr:=(hf.at i _ a h0 ha)
  exact (hr.mono (S:=N) (T:=⟨N.get,S.nx⟩) fun _ _ _ _ _ h=>h).rep Jz (hA.2 i _ x h0 hx)
 obtain⟨l,f,tmps,assign,body,h1,h2⟩:=h F m A (g.still N) xs w hF ew aY Ef
 refine⟨l,f,tmps,assign,body,h1,RoundIn.mono h2 ?_⟩
 rintro e w' ⟨v,g',rfl,k1,k2,k3⟩
 exact⟨v,g',rfl,k1,k2,hE.trans k3⟩
theorem Cv.Qy {t:Nat}{a':AV}(hN:∀ k o,N.get k=some o->S.get k=some o) (hx:S.nx<=S'.nx) (h':∀ k o,S'.get k=some o->S.get k=some o/\N.get k=none) (ht:α.tm t ≠ .u) (hf:bG N (α.tm t) a'):Cv w0 n α S ⟨a6 α.tm t a',α.df⟩ S':=by
 intro A g q w hS hA
 obtain⟨hE,ew⟩:=hS.Gy hN hx h'
 have Jz:St w0 A g ⟨N.get,S.nx⟩ w:=hS.forget (Nat.le_refl _) fun j p hj _=>hN j p hj
 have au:t < n:=by
  rcases Nat.lt_or_ge t n with h1|h1
  ·exact h1
  ·exact absurd (hA.out t h1) ht
 refine⟨g.still N,ew,(hA.later hE.toLater).slot ht ?_,hE⟩
 exact (hf.mono (S:=N) (T:=⟨N.get,S.nx⟩) fun _ _ _ _ _ h=>h).rep Jz (hA.tm t au)
end
def oV (F:AV->List Nat):List AV->List Nat
 |[]=>[]
 |a::l=>F a++oV F l
def yT (F:AV->List Nat):List (List AV)->List Nat
 |[]=>[]
 |a::l=>oV F a++yT F l
def oW (S:U):Nat->AV->List Nat
 |0,_=>[]
 |m+1,a=>match a with
  |.agg l|.aL l|.ip l=>oV (oW S m) l
  |.sl _ rows=>yT (oW S m) rows
  |.fn _ l c=>oV (oW S m) l++oV (oW S m) c
  |.ob k _ _ _ _|.pt k _ _ _|.gr k _ _=>match S.get k with
   |some (.arr _ rows _ _)=>k::yT (oW S m) rows
   |_=>[]
  |_=>[]
def fF (k:Nat):List Nat->Bool
 |[]=>false
 |j::l=>match Nat.beq j k with|true=>true|false=>fF k l
def Eg (K:List Nat) (S:U):U:=⟨fun k=>match fF k K with|true=>S.get k|false=>none,S.nx⟩
def md (s:XS):List Nat->XS
 |[]=>s
 |k::ks=>md (h_ s k none) ks
theorem xM:∀ {K:List Nat}{s:XS}{k:Nat},dM (md s K) k=if fF k K=true then none else dM s k
 |[],s,k=>by simp [md,fF]
 |j::K,s,k=>by
  rw [md,xM]
  simp only [fF]
  have e:dM (h_ s j none) k=if k=j then none else dM s k:=by
   unfold dM h_
   simp only [gW]
   by_cases e:k=j
   ·rw [if_pos e,if_pos e]
   ·rw [if_neg e,if_neg e]
  rw [e]
  by_cases B_:k=j
  ·subst B_
   simp [Nat.beq_refl]
  ·have hb:Nat.beq j k=false:=by
    cases hb:Nat.beq j k with
    |true=>exact absurd (Nat.eq_of_beq_eq_true hb).symm B_
    |false=>rfl
   simp [hb,B_]
theorem sM:∀ {K:List Nat}{s:XS},cE s (md s K)/\(md s K).lg=s.lg/\(md s K).nx=s.nx/\(md s K).yk=s.yk/\(md s K).an=s.an
 |[],s=>⟨.refl _,rfl,rfl,rfl,rfl⟩
 |j::K,s=>by
  obtain⟨h1,h2,h3,h4,h5⟩:=sM (K:=K) (s:=h_ s j none)
  exact⟨cE.wr.trans h1,h2,h3,h4,h5⟩
theorem Eh {K:List Nat}{J:FJ}{s:XS}{k:Nat}{o:Ob}(h:(Eg K (cS s)).get k=some o):fF k K=true/\cI s.yk k=false/\(den J s).get k=some o:=by
 have h:(match fF k K with|true=>(cS s).get k|false=>none)=some o:=h
 cases e:fF k K with
 |true=>rw [e] at h;obtain⟨h1,h2⟩:=cg (J:=J) h;exact⟨rfl,h2,h1⟩
 |false=>rw [e] at h;cases h
theorem HN {K:List Nat}{J:FJ}{s:XS}{k:Nat}{o:Ob}(h:(den J (md s K)).get k=some o):(den J s).get k=some o/\(Eg K (cS s)).get k=none:=by
 have h:(match cI (md s K).yk k with|true=>some (Ob.fo J)|false=>dM (md s K) k)=some o:=h
 rw [sM.2.2.2.1] at h
 show (match cI s.yk k with|true=>some (Ob.fo J)|false=>dM s k)=some o/\(match fF k K with|true=>(match cI s.yk k with|true=>none|false=>dM s k)|false=>none)=none
 cases e:cI s.yk k with
 |true=>rw [e] at h;exact⟨h,by cases fF k K<;>rfl⟩
 |false =>
  rw [e] at h
  have h:dM (md s K) k=some o:=h
  rw [xM] at h
  cases e2:fF k K with
  |true=>rw [e2] at h;simp at h
  |false=>rw [e2] at h;simp at h;exact⟨h,rfl⟩
def yU (s:XS) (aZ9:List AV):Option (List AV × XS):=match dA (eL 60) aZ9 with
 |true=>some (aZ9,s)
 |false=>match fT (dN (Eg (oV (oW (cS s) 60) aZ9) (cS s)) 60) aZ9 with
  |some lN=>some (lN,md s (oV (oW (cS s) 60) aZ9))
  |none=>none
theorem oX {S:U}{m:Nat}:∀ {l l':List AV},fT (dN S m) l=some l'->gz S l l'/\cF l'
 |[],l',h=>by obtain rfl:=Option.some.inj h;exact⟨trivial,trivial⟩
 |b::l,l',h=>by
  simp only [fT] at h
  split at h
  ·rename_i b' hb
   split at h
   ·rename_i m hm
    obtain rfl:=Option.some.inj h
    obtain⟨h1,h2⟩:=oX hm
    obtain⟨h3,h4⟩:=kX hb
    exact⟨⟨h3,h1⟩,⟨h4,h2⟩⟩
   ·cases h
  ·cases h
theorem rW {s s':XS}{aZ9 lN:List AV}(h:yU s aZ9=some (lN,s')):∃ N:U,(∀ J k o,N.get k=some o->(den J s).get k=some o)/\(∀ J k o,(den J s').get k=some o->(den J s).get k=some o/\N.get k=none)/\gz N aZ9 lN/\cF lN/\cE s s'/\s'.lg=s.lg/\s'.nx=s.nx/\s'.yk=s.yk/\s'.an=s.an:=by
 unfold yU at h
 split at h
 ·rename_i hp
  simp only [Option.some.injEq,Prod.mk.injEq] at h
  obtain⟨rfl,rfl⟩:=h
  exact⟨U.none_,fun J k o h=>(by cases h),fun J k o h=>⟨h,rfl⟩,gz.refl _ _,nD hp,.refl _,rfl,rfl,rfl,rfl⟩
 ·split at h
  ·rename_i Us hf
   simp only [Option.some.injEq,Prod.mk.injEq] at h
   obtain⟨rfl,rfl⟩:=h
   obtain⟨h1,h2⟩:=oX hf
   obtain⟨k1,k2,k3,k4,k5⟩:=sM (K:=oV (oW (cS s) 60) aZ9) (s:=s)
   exact⟨_,fun J k o h=>(Eh h).2.2,fun J k o h=>HN h,h1,h2,k1,k2,k3,k4,k5⟩
  ·cases h
def mB (B:Nat):Nat->AV->Bool
 |0,_=>false
 |m+1,a=>match a with
  |.u|.v _=>true
  |.agg l|.aL l|.ip l=>dA (mB B m) l
  |.sl _ rows=>lL (mB B m) rows
  |.fn _ l c=>match dA (mB B m) l with|true=>dA (mB B m) c|false=>false
  |.ob k _ _ _ _|.pt k _ _ _|.mp k|.yl k|.gr k _ _=>Nat.blt k B
theorem fb {B:Nat}:∀ {m:Nat}{a:AV},mB B m a=true->da B a
 |0,a,h=>by cases h
 |m+1,a,h=>by
  cases a with
  |u=>exact .u
  |v x=>exact .v
  |agg l=>exact .agg fun a ha=>fb (cr h a ha)
  |aL l=>exact .aL fun a ha=>fb (cr h a ha)
  |ip l=>exact .ip fun a ha=>fb (cr h a ha)
  |sl ex rows=>exact .sl fun r hr a ha=>fb (fU h r hr a ha)
  |fn f l c =>
   simp only [mB] at h
   split at h
   ·rename_i h1
    exact .fn (fun a ha=>fb (cr h1 a ha)) (fun a ha=>fb (cr h a ha))
   ·cases h
  |ob=>exact .ob (dI h)
  |pt=>exact .pt (dI h)
  |mp=>exact .mp (dI h)
  |yl=>exact .yl (dI h)
  |gr=>exact .gr (dI h)
def yV (B:Nat):List (Value × AV)->Bool
 |[]=>true
 |p::l=>match mB B 60 p.2 with|true=>yV B l|false=>false
theorem vn {B:Nat}:∀ {l:List (Value × AV)},yV B l=true->∀ p ∈ l,da B p.2
 |[],_,a,h=>by cases h
 |b::l,hp,a,h=>by
  simp only [yV] at hp
  split at hp
  ·rename_i hb
   rcases List.mem_cons.1 h with rfl|h
   ·exact fb hb
   ·exact vn hp a h
  ·cases hp
def Ei (B:Nat):Ob->Bool
 |.arr _ rows _ _=>lL (mB B 60) rows
 |.mp es=>yV B es
 |.df|.si _ _|.un=>true
 |_=>false
theorem vo {B:Nat}{o:Ob}(h:Ei B o=true):rA B o:=by
 cases o with
 |arr sz rows fz ex=>exact fun r hr a ha=>fb (fU h r hr a ha)
 |mp es=>exact vn h
 |df=>trivial
 |si=>trivial
 |un=>trivial
 |_=>cases h
def JA (m:List (Nat × Nat)) (k:Nat):Option Nat:=match m with
 |[]=>none
 |p::m=>match Nat.beq p.2 k with|true=>some p.1|false=>JA m k
def sN (B N:Nat) (m:List (Nat × Nat)) (k:Nat):Option Nat:=match JA m k with
 |some j=>match Nat.beq k (b9 B (bh m) j) && Nat.blt j N with
  |true=>some j
  |false=>none
 |none=>none
theorem iZ {B N:Nat}{m:List (Nat × Nat)}{k j:Nat}(h:sN B N m k=some j):k=b9 B (bh m) j/\Nat.blt j N=true:=by
 unfold sN at h
 split at h
 ·split at h
  ·rename_i hb
   simp only [Bool.and_eq_true] at hb
   obtain rfl:=Option.some.inj h
   exact⟨Nat.eq_of_beq_eq_true hb.1,hb.2⟩
  ·cases h
 ·cases h
def vp (B N:Nat) (m:List (Nat × Nat)) (a:AV):Option AV:=match mB B 60 a with
 |true=>some a
 |false=>match a with
  |.ob k sz off len cx=>match sN B N m k with|some j=>some (.ob j sz off len cx)|none=>none
  |.gr k sz len=>match sN B N m k with|some j=>some (.gr j sz len)|none=>none
  |.pt k sz i q=>match sN B N m k with|some j=>some (.pt j sz i q)|none=>none
  |.mp k=>match sN B N m k with|some j=>some (.mp j)|none=>none
  |_=>none
theorem HO {B N:Nat}{m:List (Nat × Nat)}{a a':AV}(h:vp B N m a=some a'):eg B m N a a':=by
 unfold vp at h
 split at h
 ·rename_i hk
  obtain rfl:=Option.some.inj h
  exact .aV (fb hk)
 ·split at h
  ·split at h
   ·rename_i j hj;obtain rfl:=Option.some.inj h;exact .new (iZ hj).1 (iZ hj).2
   ·cases h
  ·split at h
   ·rename_i j hj;obtain rfl:=Option.some.inj h;exact .nk (iZ hj).1 (iZ hj).2
   ·cases h
  ·split at h
   ·rename_i j hj;obtain rfl:=Option.some.inj h;exact .nm (iZ hj).1 (iZ hj).2
   ·cases h
  ·split at h
   ·rename_i j hj;obtain rfl:=Option.some.inj h;exact .nn (iZ hj).1 (iZ hj).2
   ·cases h
  ·cases h
theorem vq {B N:Nat}{m:List (Nat × Nat)}:∀ {l l':List AV},fT (vp B N m) l=some l'->mH B m N l l'
 |[],l',h=>by obtain rfl:=Option.some.inj h;trivial
 |b::l,l',h=>by
  simp only [fT] at h
  split at h
  ·rename_i b' hb
   split at h
   ·rename_i q hq
    obtain rfl:=Option.some.inj h
    exact⟨HO hb,vq hq⟩
   ·cases h
  ·cases h
theorem vr {B N:Nat}{m:List (Nat × Nat)}:∀ {l l':List (List AV)},lK (vp B N m) l=some l'->rC B m N l l'
 |[],l',h=>by obtain rfl:=Option.some.inj h;trivial
 |b::l,l',h=>by
  simp only [lK] at h
  split at h
  ·rename_i b' hb
   split at h
   ·rename_i q hq
    obtain rfl:=Option.some.inj h
    exact⟨vq hb,vr hq⟩
   ·cases h
  ·cases h
def JB (B N:Nat) (m:List (Nat × Nat)) (o:Ob):Option Ob:=match Ei B o with
 |true=>some o
 |false=>match o with
  |.arr sz rows fz ex=>match lK (vp B N m) rows with
   |some bF=>some (.arr sz bF fz ex)
   |none=>none
  |_=>none
theorem JC {B N:Nat}{m:List (Nat × Nat)}{o o':Ob}(h:JB B N m o=some o'):oB B m N o o':=by
 unfold JB at h
 split at h
 ·rename_i hk
  obtain rfl:=Option.some.inj h
  exact .same (vo hk)
 ·split at h
  ·split at h
   ·rename_i bF hr
    obtain rfl:=Option.some.inj h
    exact .arr (vr hr)
   ·cases h
  ·cases h
def sO (B N:Nat) (m:List (Nat × Nat)) (s:XS):List Nat->Tr (Option Ob)->Tr (Option Ob)
 |[],t=>t
 |j::l,t=>match (cS s).get (b9 B (bh m) j) with
  |some o=>match JB B N m o with
   |some o'=>sO B N m s l (put t j (some o'))
   |none=>sO B N m s l t
  |none=>sO B N m s l t
theorem nG {B N:Nat}{m:List (Nat × Nat)}{s:XS}:∀ {l:List Nat}{t:Tr (Option Ob)},(∀ j o,dm t j=some (some o)->∃ bf,(cS s).get (b9 B (bh m) j)=some bf/\oB B m N bf o) ->
  ∀ j o,dm (sO B N m s l t) j=some (some o)->∃ bf,(cS s).get (b9 B (bh m) j)=some bf/\oB B m N bf o
 |[],t,h=>h
 |i::l,t,h=>by
  simp only [sO]
  split
  ·rename_i o ho
   split
   ·rename_i o' SP
    refine nG fun j p hj=>?_
    rw [gW] at hj
    by_cases e:j=i
    ·subst e
     rw [if_pos rfl] at hj
     injection hj with hj
     injection hj with hj
     subst hj
     exact⟨o,ho,JC SP⟩
    ·rw [if_neg e] at hj
     exact h j p hj
   ·exact nG h
  ·exact nG h
def Qz (B:Nat) (a:AV):List Nat:=match a with
 |.ob k _ _ _ _|.gr k _ _|.pt k _ _ _|.mp k=>match Nat.blt k B with|true=>[]|false=>[k]
 |_=>[]
def QA (B:Nat):Ob->List Nat
 |.arr _ rows _ _=>yT (Qz B) rows
 |_=>[]
def dedup:List Nat->List Nat->List Nat
 |[],acc=>acc
 |k::l,acc=>match fF k acc with|true=>dedup l acc|false=>dedup l (acc++[k])
def yW (B:Nat) (s:XS):List Nat->List Nat
 |[]=>[]
 |k::l=>(match (cS s).get k with|some o=>QA B o|none=>[])++yW B s l
def grow (B:Nat) (s:XS):Nat->List Nat->List Nat
 |0,W=>W
 |m+1,W=>grow B s m (dedup (yW B s W) W)
def JD:Nat->List Nat->List (Nat × Nat)
 |_,[]=>[]
 |i,k::l=>(i,k)::JD (i+1) l
def ux (B:Nat):List (Nat × Option Ob)->List Nat
 |[]=>[]
 |p::l=>match Nat.blt p.1 B with|true=>p.1::ux B l|false=>ux B l
def rX (s:XS):List (Nat × Option Ob)->List Nat
 |[]=>[]
 |p::l=>match cI s.yk p.1,p.2 with
  |false,some _=>p.1::rX s l
  |_,_=>rX s l
def SQ:Option Nat->List Nat
 |some k=>[k]
 |none=>[]
def oY (s:XS):List (Nat × Option Ob)->List (Nat × Ob)
 |[]=>[]
 |p::l=>match cI s.yk p.1,p.2 with
  |false,some o=>(p.1,o)::oY s l
  |_,_=>oY s l
def CP (J:FJ):Option Nat->List (Nat × Ob)
 |some k=>[(k,.fo J)]
 |none=>[]
def iw (J:FJ) (s:XS):List (Nat × Ob):=CP J s.yk++oY s (toLk s.m)
def uy (s:XS):List Nat:=SQ s.yk++rX s (toLk s.m)
theorem qN {s:XS}:∀ {l:List (Nat × Option Ob)},(oY s l).map (·.1)=rX s l
 |[]=>rfl
 |p::l=>by
  simp only [oY,rX]
  split
  ·rw [List.map_cons,qN]
  ·exact qN
theorem vt {J:FJ}{s:XS}:(iw J s).map (·.1)=uy s:=by
 unfold iw uy
 rw [List.map_append,qN]
 cases s.yk<;>rfl
theorem mQ {s:XS}{k:Nat}{o:Ob}:∀ {l:List (Nat × Option Ob)},(k,o) ∈ oY s l ↔ cI s.yk k=false/\(k,some o) ∈ l
 |[]=>by simp [oY]
 |(j,p)::l=>by
  simp only [oY]
  split
  ·rename_i q h1
   rw [List.mem_cons,List.mem_cons,mQ]
   simp only [Prod.mk.injEq,Option.some.injEq]
   constructor
   ·rintro (⟨rfl,rfl⟩|⟨h3,h4⟩)
    ·exact⟨h1,.inl ⟨rfl,rfl⟩⟩
    ·exact⟨h3,.inr h4⟩
   ·rintro⟨h3,⟨rfl,rfl⟩|h4⟩
    ·exact .inl ⟨rfl,rfl⟩
    ·exact .inr ⟨h3,h4⟩
  ·rename_i aM
   rw [List.mem_cons,mQ]
   simp only [Prod.mk.injEq]
   constructor
   ·rintro⟨h3,h4⟩
    exact⟨h3,.inr h4⟩
   ·rintro⟨h3,⟨rfl,rfl⟩|h4⟩
    ·exact (aM o h3 rfl).elim
    ·exact⟨h3,h4⟩
theorem xN {J:FJ}{s:XS}{k:Nat}{o:Ob}:(k,o) ∈ iw J s ↔ (den J s).get k=some o:=by
 unfold iw
 rw [List.mem_append,mQ,toLk_mem]
 show _ ↔ (match cI s.yk k with|true=>some (Ob.fo J)|false=>dM s k)=some o
 unfold dM
 cases hy:s.yk with
 |none =>
  simp only [CP,cI,List.not_mem_nil,false_or]
  constructor
  ·rintro⟨_,h⟩;rw [h]
  ·intro h
   refine⟨trivial,?_⟩
   split at h
   ·rename_i h1;rw [h1,h]
   ·cases h
 |some y =>
  simp only [CP,List.mem_singleton,Prod.mk.injEq,cI]
  cases hb:Nat.beq y k with
  |true =>
   have:=Nat.eq_of_beq_eq_true hb
   subst this
   simp only [Option.some.injEq]
   constructor
   ·rintro (⟨_,rfl⟩|⟨h,_⟩)
    ·rfl
    ·cases h
   ·rintro rfl;exact .inl ⟨by trivial,by trivial⟩
  |false =>
   constructor
   ·rintro (⟨rfl,_⟩|⟨_,h⟩)
    ·rw [Nat.beq_refl] at hb;cases hb
    ·simp only [h]
   ·intro h
    refine .inr ⟨by trivial,?_⟩
    have h:(match dm s.m k with|some o=>o|none=>none)=some o:=h
    split at h
    ·rename_i h1;rw [h1,h]
    ·cases h
theorem Ej {l:List (Nat × Ob)}{g:Nat->Option Ob}(h:∀ k o,(k,o) ∈ l ↔ g k=some o):fj l=g:=by
 funext k
 cases e:fj l k with
 |some o=>exact ((h k o).1 (gP e)).symm
 |none =>
  cases e2:g k with
  |none=>rfl
  |some o =>
   have hm:=(h k o).2 e2
   have:∀ (l:List (Nat × Ob)),(k,o) ∈ l->fj l k ≠ none:=by
    intro l
    induction l with
    |nil=>intro h;cases h
    |cons p l ih =>
     intro h hn
     simp only [fj] at hn
     split at hn
     ·cases hn
     ·rename_i hb
      rcases List.mem_cons.1 h with rfl|h
      ·rw [Nat.beq_refl] at hb;cases hb
      ·exact ih h hn
   exact absurd e (this l hm)
theorem vu {J:FJ}{s:XS}:bu (iw J s) s.nx=den J s:=by
 unfold bu
 rw [Ej (fun k o=>xN (J:=J) (s:=s))]
 rfl
def Gz (B N:Nat) (s:XS):Option XS :=
 match grow B s 4 (dedup (yW B s (ux B (toLk s.m))) []) with
 |W=>match JD B W with
  |m=>match sO B N m s (ux B (toLk s.m)++m.map (·.1)) .nil with
   |t=>match jk B m (uy ⟨t,N,0,s.yk,s.an,s.lg⟩) && Nat.ble B N && (match s.yk with|some k=>Nat.blt k B|none=>true) with
    |true=>some ⟨t,N,0,s.yk,s.an,s.lg⟩
    |false=>none
theorem tP {B N:Nat}{s s':XS}{F:Nat->AV}(h:Gz B N s=some s'):s'.nx=N/\s'.yk=s.yk/\s'.an=s.an/\s'.lg=s.lg/\s'.lw=0/\∀ J,∃ m,Canon B N m ⟨F,[]⟩ (den J s) [] [] (iw J s'):=by
 unfold Gz at h
 simp only at h
 split at h
 ·rename_i hc
  simp only [Bool.and_eq_true] at hc
  obtain⟨⟨h1,h2⟩,h3⟩:=hc
  obtain rfl:=Option.some.inj h
  refine⟨rfl,rfl,rfl,rfl,rfl,fun J=>⟨_,trivial,rfl,?_,by rw [vt];exact h1,h2,rfl⟩⟩
  have key:∀ {l:List (Nat × Ob)}{m:List (Nat × Nat)},(∀ p ∈ l,∃ bf,(den J s).get (b9 B (bh m) p.1)=some bf/\oB B m N bf p.2)->l3 B m N (den J s) l:=by
   intro l m
   induction l with
   |nil=>intro _;trivial
   |cons p l ih=>exact fun h=>⟨.inl (h p (by simp)),ih fun q hq=>h q (by simp [hq])⟩
  refine key fun p hp=>?_
  obtain⟨k,o⟩:=p
  unfold iw at hp
  rcases List.mem_append.1 hp with hp|hp
  ·simp only at hp h3
   cases hy:s.yk with
   |none=>rw [hy] at hp;cases hp
   |some y =>
    rw [hy] at hp h3
    simp only [CP,List.mem_singleton,Prod.mk.injEq] at hp
    obtain⟨rfl,rfl⟩:=hp
    refine⟨.fo J,?_,.same trivial⟩
    simp only
    rw [ft (dI h3)]
    show (match cI s.yk k with|true=>some (Ob.fo J)|false=>dM s k)=some (Ob.fo J)
    rw [hy]
    simp only [cI,Nat.beq_refl]
  ·rw [mQ,toLk_mem] at hp
   obtain⟨bf,k1,k2⟩:=nG (fun j o h=>by cases h) _ _ hp.2
   exact⟨bf,(cg (J:=J) k1).1,k2⟩
 ·cases h
end Go.Proofs.YtbofilglphfceaaGreat
