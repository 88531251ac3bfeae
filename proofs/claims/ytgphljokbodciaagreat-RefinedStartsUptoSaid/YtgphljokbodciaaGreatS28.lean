import Derived.Test.YtgphljokbodciaaGreatS27
namespace Go.Proofs.YtgphljokbodciaaGreat
set_option linter.unusedVariables false
set_option linter.unusedSimpArgs false
open Go.RowKit
section
variable {P:Program}{w0:World}{n:Nat}{α:AA}{S S' N:ae}{r:AV}
theorem St.Re {A:Nat->Prop}{g:Gh}{w:World}(hS:St w0 A g S w) (hN:∀ k o,N.get k=some o->S.get k=some o) (hx:S.nx<=S'.nx) (h':∀ k o,S'.get k=some o->S.get k=some o/\N.get k=none) :
  Ext A g w (g.still N) w/\St w0 A (g.still N) S' w:=by
 have Bq:∀ b q,(g.still N).fz b q ↔ (g.fz b q\/∃ k sz rows fz ex,N.get k=some (.arr sz rows fz ex)/\g.al k/\b=g.ob k/\q < rows.length*sz):=fun b q=>Iff.rfl
 have hL:Later g w (g.still N) w:=⟨fun _ h=>h,fun _ _=>rfl,fun _ _=>rfl,fun b q h=>.inl h,fun _ _ _=>rfl⟩
 have Wb:∀ k o q,S'.get k=some o->g.al k->(g.still N).fz (g.ob k) q->g.fz (g.ob k) q:=fun k o q hk ha hq=>by
  rcases (Bq _ q).1 hq with hq|⟨j,sz,rows,fz,ex,hj,bG,e,_⟩
  ·exact hq
  ·obtain⟨k1,k2⟩:=h' k o hk
   have:=hS.inj k j _ _ k1 (hN j _ hj) ha bG e
   rw [this,hj] at k2
   cases k2
 refine⟨{ hL with size:=Nat.le_refl _,aT:=fun _ _ _=>rfl,gH:=fun b q hq=>?_ },⟨hS.base,hS.up,hS.lo,fun k hk=>Nat.lt_of_lt_of_le (hS.al k hk) hx,fun k o hk ha=>?_,fun i j o p hi hj ai aj e=>hS.inj i j o p (h' i o hi).1 (h' j p hj).1 ai aj e,fun b q hq=>?_,fun b q hb=>.inl (hS.nn b q hb),
  fun k J hk ha c hc=>hS.iD k J (h' k _ hk).1 ha c hc,fun k J j o hk ha hj aj bH hc=>hS.j2 k J j o (h' k _ hk).1 ha (h' j o hj).1 aj bH hc,fun j k J J' hj hk aj ak=>hS.me j k J J' (h' j _ hj).1 (h' k _ hk).1 aj ak⟩⟩
 ·rcases (Bq b q).1 hq with hq|⟨k,sz,rows,fz,ex,hk,bG,rfl,_⟩
  ·exact .inl hq
  ·exact .inr (hS.cH k _ (hN k _ hk) bG).1
 ·obtain⟨k2,k3,k4⟩:=hS.cH k o (h' k o hk).1 ha
  refine⟨k2,k3,k4.later hL rfl (fun q hq=>Wb k o q hk ha hq) fun J hJ=>⟨rfl,Nat.le_refl _,fun _ _=>rfl,fun c q hc hq=>?_⟩⟩
  rcases (Bq c q).1 hq with hq|⟨j,sz,rows,fz,ex,hj,bG,rfl,_⟩
  ·exact hq
  ·subst hJ
   refine absurd hc (hS.j2 k J j _ (h' k _ hk).1 ha (hN j _ hj) bG fun e=>?_)
   have:=(h' k _ hk).2
   rw [<-e,hj] at this
   cases this
 ·rcases (Bq b q).1 hq with hq|⟨k,sz,rows,fz,ex,hk,bG,rfl,_⟩
  ·exact hS.cK b q hq
  ·exact (hS.cH k _ (hN k _ hk) bG).2.1
theorem nz.Re {k:Nat}{args bO:List AV}{S'':ae}(hN:∀ k o,N.get k=some o->S.get k=some o) (hx:S.nx<=S'.nx) (h':∀ k o,S'.get k=some o->S.get k=some o/\N.get k=none) (hf:fE N args bO) (h:nz P w0 k bO S' r S''):nz P w0 k args S r S'':=by
 intro F m A g xs w hF hS bG hA
 obtain⟨hE,iu⟩:=hS.Re hN hx h'
 have hSN:St w0 A g N w->True:=fun _=>trivial
 have xY:jL (g.still N) w bO xs:=by
  refine⟨hA.1.trans hf.len,fun i a x ha hx=>?_⟩
  have hi:i < args.length:=by rw [hf.len];exact (List.getElem?_eq_some_iff.1 ha).1
  have h0:=List.getElem?_eq_getElem hi
  have Wc:St w0 A g ⟨N.get,S.nx⟩ w:=hS.forget (Nat.le_refl _) fun j p hj _=>hN j p hj
  have hr:=(hf.at i _ a h0 ha)
  exact (hr.mono (S:=N) (T:=⟨N.get,S.nx⟩) fun _ _ _ _ _ h=>h).rep Wc (hA.2 i _ x h0 hx)
 obtain⟨l,f,tmps,assign,body,h1,h2⟩:=h F m A (g.still N) xs w hF iu bG xY
 refine⟨l,f,tmps,assign,body,h1,RoundIn.mono h2 ?_⟩
 rintro e w' ⟨v,g',rfl,k1,k2,k3⟩
 exact⟨v,g',rfl,k1,k2,hE.trans k3⟩
theorem Cv.afH {t:Nat}{a':AV}(hN:∀ k o,N.get k=some o->S.get k=some o) (hx:S.nx<=S'.nx) (h':∀ k o,S'.get k=some o->S.get k=some o/\N.get k=none) (ht:α.tm t ≠ .u) (hf:aX N (α.tm t) a'):Cv w0 n α S ⟨bP α.tm t a',α.df⟩ S':=by
 intro A g q w hS hA
 obtain⟨hE,iu⟩:=hS.Re hN hx h'
 have Wc:St w0 A g ⟨N.get,S.nx⟩ w:=hS.forget (Nat.le_refl _) fun j p hj _=>hN j p hj
 have au:t < n:=by
  rcases Nat.lt_or_ge t n with h1|h1
  ·exact h1
  ·exact absurd (hA.out t h1) ht
 refine⟨g.still N,iu,(hA.later hE.toLater).slot ht ?_,hE⟩
 exact (hf.mono (S:=N) (T:=⟨N.get,S.nx⟩) fun _ _ _ _ _ h=>h).rep Wc (hA.tm t au)
end
def vy (F:AV->List Nat):List AV->List Nat
 |[]=>[]
 |a::l=>F a++vy F l
def Hz (F:AV->List Nat):List (List AV)->List Nat
 |[]=>[]
 |a::l=>vy F a++Hz F l
def vz (S:ae):Nat->AV->List Nat
 |0,_=>[]
 |m+1,a=>match a with
  |.agg l|.bc l|.ip l=>vy (vz S m) l
  |.sl _ rows=>Hz (vz S m) rows
  |.fn _ l c=>vy (vz S m) l++vy (vz S m) c
  |.ob k _ _ _ _|.pt k _ _ _|.gr k _ _=>match S.get k with
   |some (.arr _ rows _ _)=>k::Hz (vz S m) rows
   |_=>[]
  |_=>[]
def jV (k:Nat):List Nat->Bool
 |[]=>false
 |j::l=>match Nat.beq j k with|true=>true|false=>jV k l
def Nw (K:List Nat) (S:ae):ae:=⟨fun k=>match jV k K with|true=>S.get k|false=>none,S.nx⟩
def sa (s:XS):List Nat->XS
 |[]=>s
 |k::ks=>sa (l5 s k none) ks
theorem FX:∀ {K:List Nat}{s:XS}{k:Nat},gB (sa s K) k=if jV k K=true then none else gB s k
 |[],s,k=>by simp [sa,jV]
 |j::K,s,k=>by
  rw [sa,FX]
  simp only [jV]
  have e:gB (l5 s j none) k=if k=j then none else gB s k:=by
   unfold gB l5
   simp only [lz]
   by_cases e:k=j
   ·rw [if_pos e,if_pos e]
   ·rw [if_neg e,if_neg e]
  rw [e]
  by_cases K9:k=j
  ·subst K9
   simp [Nat.beq_refl]
  ·have hb:Nat.beq j k=false:=by
    cases hb:Nat.beq j k with
    |true=>exact absurd (Nat.eq_of_beq_eq_true hb).symm K9
    |false=>rfl
   simp [hb,K9]
theorem Au:∀ {K:List Nat}{s:XS},dX s (sa s K)/\(sa s K).lg=s.lg/\(sa s K).nx=s.nx/\(sa s K).yk=s.yk/\(sa s K).an=s.an
 |[],s=>⟨.refl _,rfl,rfl,rfl,rfl⟩
 |j::K,s=>by
  obtain⟨h1,h2,h3,h4,h5⟩:=Au (K:=K) (s:=l5 s j none)
  exact⟨dX.wr.trans h1,h2,h3,h4,h5⟩
theorem Nx {K:List Nat}{J:FJ}{s:XS}{k:Nat}{o:Ob}(h:(Nw K (eI s)).get k=some o):jV k K=true/\ee s.yk k=false/\(den J s).get k=some o:=by
 have h:(match jV k K with|true=>(eI s).get k|false=>none)=some o:=h
 cases e:jV k K with
 |true=>rw [e] at h;obtain⟨h1,h2⟩:=dA (J:=J) h;exact⟨rfl,h2,h1⟩
 |false=>rw [e] at h;cases h
theorem TX {K:List Nat}{J:FJ}{s:XS}{k:Nat}{o:Ob}(h:(den J (sa s K)).get k=some o):(den J s).get k=some o/\(Nw K (eI s)).get k=none:=by
 have h:(match ee (sa s K).yk k with|true=>some (Ob.fo J)|false=>gB (sa s K) k)=some o:=h
 rw [Au.2.2.2.1] at h
 show (match ee s.yk k with|true=>some (Ob.fo J)|false=>gB s k)=some o/\(match jV k K with|true=>(match ee s.yk k with|true=>none|false=>gB s k)|false=>none)=none
 cases e:ee s.yk k with
 |true=>rw [e] at h;exact⟨h,by cases jV k K<;>rfl⟩
 |false =>
  rw [e] at h
  have h:gB (sa s K) k=some o:=h
  rw [FX] at h
  cases e2:jV k K with
  |true=>rw [e2] at h;simp at h
  |false=>rw [e2] at h;simp at h;exact⟨h,rfl⟩
def HA (s:XS) (aZ9:List AV):Option (List AV × XS):=match fT (iT 60) aZ9 with
 |true=>some (aZ9,s)
 |false=>match kr (gC (Nw (vy (vz (eI s) 60) aZ9) (eI s)) 60) aZ9 with
  |some rz=>some (rz,sa s (vy (vz (eI s) 60) aZ9))
  |none=>none
theorem vA {S:ae}{m:Nat}:∀ {l l':List AV},kr (gC S m) l=some l'->fE S l l'/\c_ l'
 |[],l',h=>by obtain rfl:=Option.some.inj h;exact⟨trivial,trivial⟩
 |b::l,l',h=>by
  simp only [kr] at h
  split at h
  ·rename_i b' hb
   split at h
   ·rename_i m hm
    obtain rfl:=Option.some.inj h
    obtain⟨h1,h2⟩:=vA hm
    obtain⟨h3,h4⟩:=qe hb
    exact⟨⟨h3,h1⟩,⟨h4,h2⟩⟩
   ·cases h
  ·cases h
theorem y8 {s s':XS}{aZ9 rz:List AV}(h:HA s aZ9=some (rz,s')):∃ N:ae,(∀ J k o,N.get k=some o->(den J s).get k=some o)/\(∀ J k o,(den J s').get k=some o->(den J s).get k=some o/\N.get k=none)/\fE N aZ9 rz/\c_ rz/\dX s s'/\s'.lg=s.lg/\s'.nx=s.nx/\s'.yk=s.yk/\s'.an=s.an:=by
 unfold HA at h
 split at h
 ·rename_i hp
  simp only [Option.some.injEq,Prod.mk.injEq] at h
  obtain⟨rfl,rfl⟩:=h
  exact⟨ae.none_,fun J k o h=>(by cases h),fun J k o h=>⟨h,rfl⟩,fE.refl _ _,uc hp,.refl _,rfl,rfl,rfl,rfl⟩
 ·split at h
  ·rename_i as1 hf
   simp only [Option.some.injEq,Prod.mk.injEq] at h
   obtain⟨rfl,rfl⟩:=h
   obtain⟨h1,h2⟩:=vA hf
   obtain⟨k1,k2,k3,k4,k5⟩:=Au (K:=vy (vz (eI s) 60) aZ9) (s:=s)
   exact⟨_,fun J k o h=>(Nx h).2.2,fun J k o h=>TX h,h1,h2,k1,k2,k3,k4,k5⟩
  ·cases h
def sS (B:Nat):Nat->AV->Bool
 |0,_=>false
 |m+1,a=>match a with
  |.u|.v _=>true
  |.agg l|.bc l|.ip l=>fT (sS B m) l
  |.sl _ rows=>rq (sS B m) rows
  |.fn _ l c=>match fT (sS B m) l with|true=>fT (sS B m) c|false=>false
  |.ob k _ _ _ _|.pt k _ _ _|.mp k|.yl k|.gr k _ _=>Nat.blt k B
theorem jB {B:Nat}:∀ {m:Nat}{a:AV},sS B m a=true->cD B a
 |0,a,h=>by cases h
 |m+1,a,h=>by
  cases a with
  |u=>exact .u
  |v x=>exact .v
  |agg l=>exact .agg fun a ha=>jB (dH h a ha)
  |bc l=>exact .bc fun a ha=>jB (dH h a ha)
  |ip l=>exact .ip fun a ha=>jB (dH h a ha)
  |sl ex rows=>exact .sl fun r hr a ha=>jB (ku h r hr a ha)
  |fn f l c =>
   simp only [sS] at h
   split at h
   ·rename_i h1
    exact .fn (fun a ha=>jB (dH h1 a ha)) (fun a ha=>jB (dH h a ha))
   ·cases h
  |ob=>exact .ob (dZ h)
  |pt=>exact .pt (dZ h)
  |mp=>exact .mp (dZ h)
  |yl=>exact .yl (dZ h)
  |gr=>exact .gr (dZ h)
def HB (B:Nat):List (Value × AV)->Bool
 |[]=>true
 |p::l=>match sS B 60 p.2 with|true=>HB B l|false=>false
theorem Du {B:Nat}:∀ {l:List (Value × AV)},HB B l=true->∀ p ∈ l,cD B p.2
 |[],_,a,h=>by cases h
 |b::l,hp,a,h=>by
  simp only [HB] at hp
  split at hp
  ·rename_i hb
   rcases List.mem_cons.1 h with rfl|h
   ·exact jB hb
   ·exact Du hp a h
  ·cases hp
def Ny (B:Nat):Ob->Bool
 |.arr _ rows _ _=>rq (sS B 60) rows
 |.mp es=>HB B es
 |.df|.si _ _|.un=>true
 |_=>false
theorem Dv {B:Nat}{o:Ob}(h:Ny B o=true):jF B o:=by
 cases o with
 |arr sz rows fz ex=>exact fun r hr a ha=>jB (ku h r hr a ha)
 |mp es=>exact Du h
 |df=>trivial
 |si=>trivial
 |un=>trivial
 |_=>cases h
def Wd (m:List (Nat × Nat)) (k:Nat):Option Nat:=match m with
 |[]=>none
 |p::m=>match Nat.beq p.2 k with|true=>some p.1|false=>Wd m k
def Av (B N:Nat) (m:List (Nat × Nat)) (k:Nat):Option Nat:=match Wd m k with
 |some j=>match Nat.beq k (dm B (bX m) j) && Nat.blt j N with
  |true=>some j
  |false=>none
 |none=>none
theorem m_ {B N:Nat}{m:List (Nat × Nat)}{k j:Nat}(h:Av B N m k=some j):k=dm B (bX m) j/\Nat.blt j N=true:=by
 unfold Av at h
 split at h
 ·split at h
  ·rename_i hb
   simp only [Bool.and_eq_true] at hb
   obtain rfl:=Option.some.inj h
   exact⟨Nat.eq_of_beq_eq_true hb.1,hb.2⟩
  ·cases h
 ·cases h
def Dw (B N:Nat) (m:List (Nat × Nat)) (a:AV):Option AV:=match sS B 60 a with
 |true=>some a
 |false=>match a with
  |.ob k sz off len cx=>match Av B N m k with|some j=>some (.ob j sz off len cx)|none=>none
  |.gr k sz len=>match Av B N m k with|some j=>some (.gr j sz len)|none=>none
  |.pt k sz i q=>match Av B N m k with|some j=>some (.pt j sz i q)|none=>none
  |.mp k=>match Av B N m k with|some j=>some (.mp j)|none=>none
  |_=>none
theorem TY {B N:Nat}{m:List (Nat × Nat)}{a a':AV}(h:Dw B N m a=some a'):g8 B m N a a':=by
 unfold Dw at h
 split at h
 ·rename_i hk
  obtain rfl:=Option.some.inj h
  exact .aC (jB hk)
 ·split at h
  ·split at h
   ·rename_i j hj;obtain rfl:=Option.some.inj h;exact .new (m_ hj).1 (m_ hj).2
   ·cases h
  ·split at h
   ·rename_i j hj;obtain rfl:=Option.some.inj h;exact .ll (m_ hj).1 (m_ hj).2
   ·cases h
  ·split at h
   ·rename_i j hj;obtain rfl:=Option.some.inj h;exact .tN (m_ hj).1 (m_ hj).2
   ·cases h
  ·split at h
   ·rename_i j hj;obtain rfl:=Option.some.inj h;exact .tO (m_ hj).1 (m_ hj).2
   ·cases h
  ·cases h
theorem Dx {B N:Nat}{m:List (Nat × Nat)}:∀ {l l':List AV},kr (Dw B N m) l=some l'->tg B m N l l'
 |[],l',h=>by obtain rfl:=Option.some.inj h;trivial
 |b::l,l',h=>by
  simp only [kr] at h
  split at h
  ·rename_i b' hb
   split at h
   ·rename_i q hq
    obtain rfl:=Option.some.inj h
    exact⟨TY hb,Dx hq⟩
   ·cases h
  ·cases h
theorem Dy {B N:Nat}{m:List (Nat × Nat)}:∀ {l l':List (List AV)},rp (Dw B N m) l=some l'->y9 B m N l l'
 |[],l',h=>by obtain rfl:=Option.some.inj h;trivial
 |b::l,l',h=>by
  simp only [rp] at h
  split at h
  ·rename_i b' hb
   split at h
   ·rename_i q hq
    obtain rfl:=Option.some.inj h
    exact⟨Dx hb,Dy hq⟩
   ·cases h
  ·cases h
def We (B N:Nat) (m:List (Nat × Nat)) (o:Ob):Option Ob:=match Ny B o with
 |true=>some o
 |false=>match o with
  |.arr sz rows fz ex=>match rp (Dw B N m) rows with
   |some cL=>some (.arr sz cL fz ex)
   |none=>none
  |_=>none
theorem Wf {B N:Nat}{m:List (Nat × Nat)}{o o':Ob}(h:We B N m o=some o'):vB B m N o o':=by
 unfold We at h
 split at h
 ·rename_i hk
  obtain rfl:=Option.some.inj h
  exact .same (Dv hk)
 ·split at h
  ·split at h
   ·rename_i cL hr
    obtain rfl:=Option.some.inj h
    exact .arr (Dy hr)
   ·cases h
  ·cases h
def Aw (B N:Nat) (m:List (Nat × Nat)) (s:XS):List Nat->Tr (Option Ob)->Tr (Option Ob)
 |[],t=>t
 |j::l,t=>match (eI s).get (dm B (bX m) j) with
  |some o=>match We B N m o with
   |some o'=>Aw B N m s l (put t j (some o'))
   |none=>Aw B N m s l t
  |none=>Aw B N m s l t
theorem ue {B N:Nat}{m:List (Nat × Nat)}{s:XS}:∀ {l:List Nat}{t:Tr (Option Ob)},(∀ j o,fj t j=some (some o)->∃ cr,(eI s).get (dm B (bX m) j)=some cr/\vB B m N cr o) ->
  ∀ j o,fj (Aw B N m s l t) j=some (some o)->∃ cr,(eI s).get (dm B (bX m) j)=some cr/\vB B m N cr o
 |[],t,h=>h
 |i::l,t,h=>by
  simp only [Aw]
  split
  ·rename_i o ho
   split
   ·rename_i o' QW
    refine ue fun j p hj=>?_
    rw [lz] at hj
    by_cases e:j=i
    ·subst e
     rw [if_pos rfl] at hj
     injection hj with hj
     injection hj with hj
     subst hj
     exact⟨o,ho,Wf QW⟩
    ·rw [if_neg e] at hj
     exact h j p hj
   ·exact ue h
  ·exact ue h
def afI (B:Nat) (a:AV):List Nat:=match a with
 |.ob k _ _ _ _|.gr k _ _|.pt k _ _ _|.mp k=>match Nat.blt k B with|true=>[]|false=>[k]
 |_=>[]
def afJ (B:Nat):Ob->List Nat
 |.arr _ rows _ _=>Hz (afI B) rows
 |_=>[]
def dedup:List Nat->List Nat->List Nat
 |[],acc=>acc
 |k::l,acc=>match jV k acc with|true=>dedup l acc|false=>dedup l (acc++[k])
def HC (B:Nat) (s:XS):List Nat->List Nat
 |[]=>[]
 |k::l=>(match (eI s).get k with|some o=>afJ B o|none=>[])++HC B s l
def grow (B:Nat) (s:XS):Nat->List Nat->List Nat
 |0,W=>W
 |m+1,W=>grow B s m (dedup (HC B s W) W)
def Wg:Nat->List Nat->List (Nat × Nat)
 |_,[]=>[]
 |i,k::l=>(i,k)::Wg (i+1) l
def Cn (B:Nat):List (Nat × Option Ob)->List Nat
 |[]=>[]
 |p::l=>match Nat.blt p.1 B with|true=>p.1::Cn B l|false=>Cn B l
def y_ (s:XS):List (Nat × Option Ob)->List Nat
 |[]=>[]
 |p::l=>match ee s.yk p.1,p.2 with
  |false,some _=>p.1::y_ s l
  |_,_=>y_ s l
def ykL:Option Nat->List Nat
 |some k=>[k]
 |none=>[]
def vC (s:XS):List (Nat × Option Ob)->List (Nat × Ob)
 |[]=>[]
 |p::l=>match ee s.yk p.1,p.2 with
  |false,some o=>(p.1,o)::vC s l
  |_,_=>vC s l
def K_ (J:FJ):Option Nat->List (Nat × Ob)
 |some k=>[(k,.fo J)]
 |none=>[]
def mj (J:FJ) (s:XS):List (Nat × Ob):=K_ J s.yk++vC s (toLk s.m)
def Co (s:XS):List Nat:=ykL s.yk++y_ s (toLk s.m)
theorem x9 {s:XS}:∀ {l:List (Nat × Option Ob)},(vC s l).map (·.1)=y_ s l
 |[]=>rfl
 |p::l=>by
  simp only [vC,y_]
  split
  ·rw [List.map_cons,x9]
  ·exact x9
theorem Dz {J:FJ}{s:XS}:(mj J s).map (·.1)=Co s:=by
 unfold mj Co
 rw [List.map_append,x9]
 cases s.yk<;>rfl
theorem th {s:XS}{k:Nat}{o:Ob}:∀ {l:List (Nat × Option Ob)},(k,o) ∈ vC s l ↔ ee s.yk k=false/\(k,some o) ∈ l
 |[]=>by simp [vC]
 |(j,p)::l=>by
  simp only [vC]
  split
  ·rename_i q h1
   rw [List.mem_cons,List.mem_cons,th]
   simp only [Prod.mk.injEq,Option.some.injEq]
   constructor
   ·rintro (⟨rfl,rfl⟩|⟨h3,h4⟩)
    ·exact⟨h1,.inl ⟨rfl,rfl⟩⟩
    ·exact⟨h3,.inr h4⟩
   ·rintro⟨h3,⟨rfl,rfl⟩|h4⟩
    ·exact .inl ⟨rfl,rfl⟩
    ·exact .inr ⟨h3,h4⟩
  ·rename_i bH
   rw [List.mem_cons,th]
   simp only [Prod.mk.injEq]
   constructor
   ·rintro⟨h3,h4⟩
    exact⟨h3,.inr h4⟩
   ·rintro⟨h3,⟨rfl,rfl⟩|h4⟩
    ·exact (bH o h3 rfl).elim
    ·exact⟨h3,h4⟩
theorem FY {J:FJ}{s:XS}{k:Nat}{o:Ob}:(k,o) ∈ mj J s ↔ (den J s).get k=some o:=by
 unfold mj
 rw [List.mem_append,th,toLk_mem]
 show _ ↔ (match ee s.yk k with|true=>some (Ob.fo J)|false=>gB s k)=some o
 unfold gB
 cases hy:s.yk with
 |none =>
  simp only [K_,ee,List.not_mem_nil,false_or]
  constructor
  ·rintro⟨_,h⟩;rw [h]
  ·intro h
   refine⟨trivial,?_⟩
   split at h
   ·rename_i h1;rw [h1,h]
   ·cases h
 |some y =>
  simp only [K_,List.mem_singleton,Prod.mk.injEq,ee]
  cases hb:Nat.beq y k with
  |true =>
   have:=Nat.eq_of_beq_eq_true hb
   subst this
   simp only [Option.some.injEq]
   constructor
   ·rintro (⟨_,rfl⟩|⟨h,_⟩)
    ·rfl
    ·cases h
   ·rintro rfl;exact .inl ⟨by trivial,by trivial⟩
  |false =>
   constructor
   ·rintro (⟨rfl,_⟩|⟨_,h⟩)
    ·rw [Nat.beq_refl] at hb;cases hb
    ·simp only [h]
   ·intro h
    refine .inr ⟨by trivial,?_⟩
    have h:(match fj s.m k with|some o=>o|none=>none)=some o:=h
    split at h
    ·rename_i h1;rw [h1,h]
    ·cases h
theorem Nz {l:List (Nat × Ob)}{g:Nat->Option Ob}(h:∀ k o,(k,o) ∈ l ↔ g k=some o):iS l=g:=by
 funext k
 cases e:iS l k with
 |some o=>exact ((h k o).1 (jq e)).symm
 |none =>
  cases e2:g k with
  |none=>rfl
  |some o =>
   have hm:=(h k o).2 e2
   have:∀ (l:List (Nat × Ob)),(k,o) ∈ l->iS l k ≠ none:=by
    intro l
    induction l with
    |nil=>intro h;cases h
    |cons p l ih =>
     intro h hn
     simp only [iS] at hn
     split at hn
     ·cases hn
     ·rename_i hb
      rcases List.mem_cons.1 h with rfl|h
      ·rw [Nat.beq_refl] at hb;cases hb
      ·exact ih h hn
   exact absurd e (this l hm)
theorem DA {J:FJ}{s:XS}:aE (mj J s) s.nx=den J s:=by
 unfold aE
 rw [Nz (fun k o=>FY (J:=J) (s:=s))]
 rfl
def Rf (B N:Nat) (s:XS):Option XS :=
 match grow B s 4 (dedup (HC B s (Cn B (toLk s.m))) []) with
 |W=>match Wg B W with
  |m=>match Aw B N m s (Cn B (toLk s.m)++m.map (·.1)) .nil with
   |t=>match nq B m (Co ⟨t,N,0,s.yk,s.an,s.lg⟩) && Nat.ble B N && (match s.yk with|some k=>Nat.blt k B|none=>true) with
    |true=>some ⟨t,N,0,s.yk,s.an,s.lg⟩
    |false=>none
theorem Br {B N:Nat}{s s':XS}{F:Nat->AV}(h:Rf B N s=some s'):s'.nx=N/\s'.yk=s.yk/\s'.an=s.an/\s'.lg=s.lg/\s'.lw=0/\∀ J,∃ m,Canon B N m ⟨F,[]⟩ (den J s) [] [] (mj J s'):=by
 unfold Rf at h
 simp only at h
 split at h
 ·rename_i hc
  simp only [Bool.and_eq_true] at hc
  obtain⟨⟨h1,h2⟩,h3⟩:=hc
  obtain rfl:=Option.some.inj h
  refine⟨rfl,rfl,rfl,rfl,rfl,fun J=>⟨_,trivial,rfl,?_,by rw [Dz];exact h1,h2,rfl⟩⟩
  have key:∀ {l:List (Nat × Ob)}{m:List (Nat × Nat)},(∀ p ∈ l,∃ cr,(den J s).get (dm B (bX m) p.1)=some cr/\vB B m N cr p.2)->rX B m N (den J s) l:=by
   intro l m
   induction l with
   |nil=>intro _;trivial
   |cons p l ih=>exact fun h=>⟨.inl (h p (by simp)),ih fun q hq=>h q (by simp [hq])⟩
  refine key fun p hp=>?_
  obtain⟨k,o⟩:=p
  unfold mj at hp
  rcases List.mem_append.1 hp with hp|hp
  ·simp only at hp h3
   cases hy:s.yk with
   |none=>rw [hy] at hp;cases hp
   |some y =>
    rw [hy] at hp h3
    simp only [K_,List.mem_singleton,Prod.mk.injEq] at hp
    obtain⟨rfl,rfl⟩:=hp
    refine⟨.fo J,?_,.same trivial⟩
    simp only
    rw [jW (dZ h3)]
    show (match ee s.yk k with|true=>some (Ob.fo J)|false=>gB s k)=some (Ob.fo J)
    rw [hy]
    simp only [ee,Nat.beq_refl]
  ·rw [th,toLk_mem] at hp
   obtain⟨cr,k1,k2⟩:=ue (fun j o h=>by cases h) _ _ hp.2
   exact⟨cr,(dA (J:=J) k1).1,k2⟩
 ·cases h
section
variable {P:Program}{w0:World}{n B:Nat}{α:AA}{S:ae}{dr:Bool}
theorem vD {o:Oper}{sz by_:Nat}{a b:QO}{ex:Bool}{rows:List (List AV)}(hr:res P.toTables o.op=some (.append sz by_ a b)) (ha:a.ev α.tm=.sl ex rows) (hb:dv S (b.ev α.tm)=some []):bg P w0 n o α S (.sl ex rows) S:=by
 obtain⟨c,t,t2,u,v,e,e2,z,ho,hc,fC,bD,rfl,rfl,ht,fh,hz,hs,j4,ld,td⟩:=lQ hr
 rw [aU] at ha hb
 obtain⟨hm,hlen⟩:=dp hb
 have fC:c.argTypes=#[t,t2]:=by rw [<-Array.toArray_toList (xs:=c.argTypes),fC]
 have bD:c.args=#[u,v]:=by rw [<-Array.toArray_toList (xs:=c.args),bD]
 have ht:P.underlying t=some (.slice e):=by
  unfold fJ at ht
  split at ht
  ·obtain rfl:=Option.some.inj ht;assumption
  ·cases ht
 have fh:P.underlying t2=some (.slice e2):=by
  unfold fJ at fh
  split at fh
  ·obtain rfl:=Option.some.inj fh;assumption
  ·cases fh
 refine bg.quiet fun A g q w hS hA=>?_
 have h1:=hA.ev u
 have h2:=hA.ev v
 rw [ha] at h1
 obtain⟨C,c1,e1⟩:=nG (S:=S) hlen hm h2
 obtain⟨C',cc',e3,hle,_⟩:=nJ h1
 refine⟨q.eval u,?_,h1⟩
 have cu:(execOp q.eval o).run P w=((Builtin.append_ #[t,t2] o.type #[q.eval u,q.eval v]).run P w).andThen fun v w'=>.ok (.value v) w':=by
  simp [execOp,ho,resolve,hc,fC,bD,invoke,builtin]
 rw [cu,e1,e3,sT ht fh hs hle]
 rfl
theorem La {o:Oper}{sz by_:Nat}{a b:QO}{ex:Bool}{rows:List (List AV)}{A:Option Addr}{cp:Nat}(hr:res P.toTables o.op=some (.append sz by_ a b)) (ha:a.ev α.tm=.sl ex rows) (hb:b.ev α.tm=.v (.slice A 0 cp)):bg P w0 n o α S (.sl ex rows) S:=by
 obtain⟨c,t,t2,u,v,e,e2,z,ho,hc,fC,bD,rfl,rfl,ht,fh,hz,hs,j4,ld,td⟩:=lQ hr
 rw [aU] at ha hb
 have fC:c.argTypes=#[t,t2]:=by rw [<-Array.toArray_toList (xs:=c.argTypes),fC]
 have bD:c.args=#[u,v]:=by rw [<-Array.toArray_toList (xs:=c.args),bD]
 have ht:P.underlying t=some (.slice e):=by
  unfold fJ at ht
  split at ht
  ·obtain rfl:=Option.some.inj ht;assumption
  ·cases ht
 have fh:P.underlying t2=some (.slice e2):=by
  unfold fJ at fh
  split at fh
  ·obtain rfl:=Option.some.inj fh;assumption
  ·cases fh
 refine bg.quiet fun A g q w hS hA=>?_
 have h1:=hA.ev u
 have h2:=hA.ev v
 rw [ha] at h1
 rw [hb] at h2
 have e1:=cd h2
 obtain⟨C',cc',e3,hle,_⟩:=nJ h1
 refine⟨q.eval u,?_,h1⟩
 have cu:(execOp q.eval o).run P w=((Builtin.append_ #[t,t2] o.type #[q.eval u,q.eval v]).run P w).andThen fun v w'=>.ok (.value v) w':=by
  simp [execOp,ho,resolve,hc,fC,bD,invoke,builtin]
 rw [cu,e1,e3,sT ht fh hs hle]
 rfl
theorem wJ {o:Oper}{sz by_:Nat}{a b:QO}(hr:res P.toTables o.op=some (.append sz by_ a b)):a.ev (α.only (dg o)).tm=a.ev α.tm/\b.ev (α.only (dg o)).tm=b.ev α.tm/\∀ c,o.op ≠ .defer c:=by
 obtain⟨c,t,t2,u,v,e,e2,z,ho,hc,fC,bD,rfl,rfl,_⟩:=lQ hr
 have key:∀ q ∈ [u,v],(α.only (dg o)).ev q=α.ev q:=fun q hq=>jl fun t ht=>iA (by
  rw [ho,<-ht]
  have:q ∈ c.args:=Array.mem_toList_iff.1 (by rw [bD];exact hq)
  show q ∈ c.operands
  simp [Call.operands,this,hc])
 exact⟨by rw [aU,aU];exact key u (by simp),by rw [aU,aU];exact key v (by simp),fun c e=>by rw [ho] at e;cases e⟩
theorem ad.HD {sz by_:Nat}{a b:QO}{ex:Bool}{rows:List (List AV)}(ha:a.ev α.tm=.sl ex rows) (hb:dv S (b.ev α.tm)=some []):ad P w0 dr (.append sz by_ a b) α S (.sl ex rows) S:=by
 cases dr with
 |false=>exact fun n o hr=>(vD hr ha hb).ops (wJ (α:=α) hr).2.2
 |true =>
  intro n o hr
  obtain⟨h1,h2,h3⟩:=wJ (α:=α) hr
  exact⟨(vD hr (by rw [h1];exact ha) (by rw [h2];exact hb)).ops h3,fun hp=>(by rw [qq hr] at hp;cases hp),fun _=>rfl⟩
theorem ad.aaS {sz by_:Nat}{a b:QO}{ex:Bool}{rows:List (List AV)}{A:Option Addr}{cp:Nat}(ha:a.ev α.tm=.sl ex rows) (hb:b.ev α.tm=.v (.slice A 0 cp)):ad P w0 false (.append sz by_ a b) α S (.sl ex rows) S:=fun n o hr=>(La hr ha hb).ops (wJ (α:=α) hr).2.2
theorem cj.HD {sz by_:Nat}{a b:QO}{ex ex':Bool}{rows:List (List AV)}(ha:a.ev α.tm=.sl ex rows) (hb:b.ev α.tm=.sl ex' []):cj P w0 B (.append sz by_ a b) α S (.sl ex rows) ⟨[],[],false⟩:=by
 intro n o hr
 refine⟨fun _=>rfl,(show lr S [] from fun p hp=>by cases hp),fun T _ _ _=>?_⟩
 rw [show dQ T [] false=T from cO]
 obtain⟨h1,h2,h3⟩:=wJ (α:=α) hr
 exact (vD hr (by rw [h1];exact ha) (by rw [h2,hb];exact fy)).ops h3
end
def NA (sz by_:Nat) (s:XS) (a b:AV):Option (AV × Dt):=match b with
 |.sl _ []=>match a with
  |.sl ex rows=>some (.sl ex rows,⟨[],[],false⟩)
  |.ob k sz' 0 len none=>match (eI s).get k with
   |some (.arr gn rows fz ex)=>match Nat.beq gn sz' with
    |true=>some (.ob k sz' 0 len none,⟨[(k,.arr gn rows fz ex)],[],false⟩)
    |false=>none
   |_=>none
  |_=>none
 |.sl _ (x::more)=>match a with
  |.sl true []=>match jT sz (x::more) && Nat.ble ((x::more).length*by_) 35184372088832 with
   |true=>some (.ob s.nx sz 0 (x::more).length none,⟨[],[(s.nx,some (.arr sz (x::more) 0 false))],true⟩)
   |false=>none
  |.ob k sz' 0 len none=>match (eI s).get k with
   |some (.arr gn rows fz ex)=>match Nat.beq gn sz && Nat.beq sz' sz && jT sz (x::more) && rq cn (x::more) && Nat.ble ((len+(x::more).length)*by_) 35184372088832 && Nat.ble fz len && Nat.ble len rows.length with
    |true=>some (.ob s.nx sz 0 (len+(x::more).length) none,⟨[(k,.arr gn rows fz ex)],[(s.nx,some (.arr sz (rows.take len++x::more) fz false)),(k,none)],true⟩)
    |false=>none
   |_=>none
  |_=>none
 |_=>none
section
variable {P:Program}{w0:World}{B:Nat}{s:XS}{r:AV}{J:FJ}
theorem HE {sz by_:Nat}{a b:QO}{f:Nat->AV}{df:List DE}{d:Dt}(h:NA sz by_ s (a.ev f) (b.ev f)=some (r,d)):cj P w0 B (.append sz by_ a b) ⟨f,df⟩ (den J s) r d:=by
 unfold NA at h
 split at h
 ·rename_i ex' hb
  split at h
  ·rename_i ex rows ha
   simp only [Option.some.injEq,Prod.mk.injEq] at h
   obtain⟨rfl,rfl⟩:=h
   exact cj.HD ha hb
  ·rename_i k sz' len ha
   split at h
   ·rename_i gn rows fz ex hk
    split at h
    ·rename_i hs
     have hs:=Nat.eq_of_beq_eq_true hs
     subst hs
     simp only [Option.some.injEq,Prod.mk.injEq] at h
     obtain⟨rfl,rfl⟩:=h
     exact cj.yO ha (dA (J:=J) hk).1 hb
    ·cases h
   ·cases h
  ·cases h
 ·rename_i ex' x more hb
  split at h
  ·rename_i ha
   split at h
   ·rename_i hc
    simp only [Bool.and_eq_true] at hc
    simp only [Option.some.injEq,Prod.mk.injEq] at h
    obtain⟨rfl,rfl⟩:=h
    exact cj.Ai (S:=den J s) ha hb (fk hc.1) (Nat.le_of_ble_eq_true hc.2)
   ·cases h
  ·rename_i k sz' len ha
   split at h
   ·rename_i gn rows fz ex hk
    split at h
    ·rename_i hc
     simp only [Bool.and_eq_true] at hc
     obtain⟨⟨⟨⟨⟨⟨h1,h2⟩,h3⟩,h4⟩,h5⟩,h6⟩,h7⟩:=hc
     have h1:=Nat.eq_of_beq_eq_true h1
     have h2:=Nat.eq_of_beq_eq_true h2
     subst h1 h2
     simp only [Option.some.injEq,Prod.mk.injEq] at h
     obtain⟨rfl,rfl⟩:=h
     exact cj.Hc (S:=den J s) ha (dA (J:=J) hk).1 hb (Nat.le_of_ble_eq_true h6) (Nat.le_of_ble_eq_true h7) (fun row hr=>⟨fk h3 row hr,List.all_eq_true.2 (ku h4 row hr)⟩) (Nat.le_of_ble_eq_true h5)
    ·cases h
   ·cases h
  ·cases h
 ·cases h
theorem cj.aaT {fq:QO}{mh:List QO}{f:Nat->AV}{df:List DE}{g:FuncId}{aZ9:List AV}{S S':ae}{k sz len fz:Nat}{rows:List (List AV)}{ex:Bool}(bL:e7 (fq.ev f) (mh.map (·.ev f))=some (g,aZ9)) (hp:c_ aZ9) (h:aV P w0 g aZ9 ae.none_ (.ob k sz 0 len none) S')
  (hk:S'.get k=some (.arr sz rows fz ex)) (hr:∀ r ∈ rows,∀ a ∈ r,Pure a):cj P w0 B (.call fq mh) ⟨f,df⟩ S (.ob S.nx sz 0 len none) ⟨[],[(S.nx,some (.arr sz rows fz ex))],true⟩:=by
 have h1:aV P w0 g aZ9 (aE [] 0) (.ob 0 sz 0 len none) (aE [(0,.arr sz rows fz ex)] 1):=by
  refine aV.canon (B:=0) (N:=1) (m:=[(0,k)]) (S:=ae.none_) (S':=S') h rfl (.new rfl rfl) ⟨.inl ⟨_,hk,.same fun r iZ a ha=>(hr r iZ a ha).bM⟩,trivial⟩ rfl rfl
 have pl:∀ {l:List AV},c_ l->CE (bX []) 0 l l:=by
  intro l
  induction l with
  |nil=>intro _;trivial
  |cons a l ih=>exact fun h=>⟨Rn.pure h.1,ih h.2⟩
 exact cj.P9 (so':=[(0,.arr sz rows fz ex)]) h1 bL (pl hp) (Rb.ob rfl) ⟨⟨0,_,rfl,rfl,kY.pure hr⟩,trivial⟩ rfl
end
section
variable {P:Program}{w0:World}{n:Nat}{o:Oper}{α:AA}{S S':ae}{r:AV}
theorem ad.afK {m k sz off len:Nat}{x:QO}{lo hi:Option QO}{l h:Int}{rows:List (List AV)}{fz:Nat}{ex:Bool}(hx:x.ev α.tm=.ob k sz off len none) (hk:S.get k=some (.arr sz rows fz ex)) (hm:m=sz) (hl:jz α.tm lo 0=some l) (hh:jz α.tm hi len=some h) (h0:0<=l) (h1:l < h) (h2:off+h<=rows.length) :
  ad P w0 false (.slice (.sl m) x lo hi none) α S (.ob k sz (off+l.toNat) (h.toNat - l.toNat) none) S:=ad.run fun n o hr=>by
 obtain⟨t,u,l1,i1,m1,ho,rfl,rfl,rfl,Lb,⟨hs,_⟩|⟨e,m',hs,hu,hz⟩⟩:=FU hr
 ·cases hs
 ·injection hs with hs
  subst hs hm
  have Lb:m1=none:=by cases m1 with|none=>rfl|some _=>cases Lb
  subst Lb
  rw [aU] at hx
  refine bg.quiet fun A g q w hS hA=>?_
  have hx:=hA.ev u
  rw [show α.ev u=_ from ‹α.ev u=_›] at hx
  obtain⟨c,e1,bG,hc,hp,l4,hle⟩:=gA hx
  obtain⟨_,_,cs,ty,p1,p2,p3,_⟩:=hS.cH k _ hk bG
  have V2:=l4 rfl
  have hb:=lX (P:=P) (isSl:=true) (len:=len) (cap:=c) (w:=w) hA (qv hl) (qv hh) h0 (by omega) (by omega)
  have bH:¬ c=l.toNat:=by omega
  have dG:(Instr.slice t (q.eval u) (l1.map q.eval) (i1.map q.eval) (Option.map q.eval none)).run P w=.ok (.slice (some ⟨g.ob k,(off+l.toNat)*m,none⟩) (h.toNat - l.toNat) (c - l.toNat)) w:=by
   simp [Instr.slice,e1,run_underlying hu,hb,cP hz,bH,fS,Nat.add_mul]
  have aaU:(execOp q.eval o).run P w=.ok (.value (.slice (some ⟨g.ob k,(off+l.toNat)*m,none⟩) (h.toNat - l.toNat) (c - l.toNat))) w:=by
   simp only [execOp,ho,Sem.run_bind,za hu (fun k e h=>by cases h),dG,Result.andThen_ok]
   rfl
  exact⟨_,aaU,.ob bG (fun m hm=>by cases hm) (by omega) (fun _=>by omega) (by omega)⟩
theorem HF {z:List AV}{a:QO}{o:Op}(h:res P.toTables o=some (.ti z a)):∃ c t u e zv,o=.call c/\c.callee=.builtin .clear/\c.argTypes=#[t]/\c.args=#[u]/\a=qo u/\P.underlying t=some (.slice e)/\cY P e=some zv/\z=zv.cells.toList.map bV:=by
 cases o<;>simp only [res,b_,gV] at h<;>(repeat' split at h)<;>(try cases h)
 exact⟨_,_,_,_,_,rfl,by assumption,toList_one (by assumption),toList_one (by assumption),rfl,by assumption,by assumption,rfl⟩
theorem ad.Wh {z:List AV}{x:QO}{k sz off len fz:Nat}{cx:Option Nat}{rows:List (List AV)}{ex:Bool}(hx:x.ev α.tm=.ob k sz off len cx) (hk:S.get k=some (.arr sz rows fz ex)) (hz:z.length=sz) (lN:fT cn z=true) (hp:off+len<=rows.length) (hf:fz<=off) (h0:0 < len) :
  ad P w0 false (.ti z x) α S (.bc []) (S.set k (some (.arr sz (rows.take off++List.replicate len z++rows.drop (off+len)) fz ex))):=ad.run fun n o hr=>by
 obtain⟨c,t,u,e,zv,ho,hc,fC,bD,rfl,hu,Lc,rfl⟩:=HF hr
 rw [aU] at hx
 intro A g q w hS hA
 have h1:=hA.ev u
 rw [hx] at h1
 obtain⟨cc,e1,bG,_,_,_,hle⟩:=gA h1
 obtain⟨k2,k3,cs,ty,p1,p2,p3,p4,p5,p6,p7⟩:=hS.cH k _ hk bG
 have ld:zv.cells.size=sz:=by simpa using hz
 obtain⟨news,p_⟩:∃ news,news=(Builtin.zeroCells zv.cells len).toList:=⟨_,rfl⟩
 have Rg:news.length=(List.replicate len (zv.cells.toList.map bV)).length*sz:=by rw [p_,Array.length_toList,size_zeroCells,List.length_replicate,ld]
 have kl:∀ i j,i < len->j < sz->∀ v,zv.cells[j]?=some v->news[i*sz+j]?=some v:=by
  intro i j hi hj v hv
  have au:i*sz+j < len*sz:=jQ hi hj
  have e1:(i*sz+j) % zv.cells.size=j:=by
   rw [ld,Nat.mul_comm,Nat.mul_add_mod]
   exact Nat.mod_eq_of_lt hj
  rw [p_,Array.getElem?_toList]
  unfold Builtin.zeroCells
  rw [Array.getElem?_map,Array.getElem?_range,if_pos (by rw [ld];exact au)]
  simp only [Option.map_some,e1]
  rw [getElem!_pos zv.cells j (by omega),<-hv,Array.getElem?_eq_getElem (by omega)]
 obtain⟨hE,cZ⟩:=hS.Ap (p:=off) (more:=List.replicate len (zv.cells.toList.map bV)) (news:=news) hk bG p1 (fun r hr=>by rw [(List.mem_replicate.1 hr).2];exact hz) Rg (fun i row j a hi ha=>by
  obtain⟨gY,rfl⟩:=List.getElem?_eq_some_iff.1 hi
  simp only [List.length_replicate] at gY
  simp only [List.getElem_replicate,List.getElem?_map,Option.map_eq_some_iff] at ha
  obtain⟨y,hy,rfl⟩:=ha
  have hj:j < sz:=by
   have:=(List.getElem?_eq_some_iff.1 hy).1
   simp at this
   omega
  exact⟨y,kl i j gY hj y (by rw [<-Array.getElem?_toList];exact hy),j3 y⟩) (by rw [List.length_replicate];exact hp) hf
 rw [List.length_replicate] at cZ
 have afL:∀ v ∈ news,v.oneCell'=true:=by
  intro v hv
  rw [p_] at hv
  have hv:=Array.mem_toList_iff.1 hv
  unfold Builtin.zeroCells at hv
  obtain⟨i,hi,rfl⟩:=Array.mem_map.1 hv
  have gY:=Array.mem_range.1 hi
  have bI:0 < zv.cells.size:=by
   rcases Nat.eq_zero_or_pos zv.cells.size with e|e
   ·rw [e,Nat.mul_zero] at gY;omega
   ·exact e
  have hj:i % zv.cells.size < zv.cells.size:=Nat.mod_lt _ bI
  rw [getElem!_pos zv.cells _ hj]
  have hm:bV zv.cells[i % zv.cells.size] ∈ zv.cells.toList.map bV:=List.mem_map.2 ⟨_,Array.mem_toList_iff.2 (Array.getElem_mem hj),rfl⟩
  exact pZ (g:=g) (w:=w) (dH lN _ hm) (j3 _)
 have en:off*sz+0+news.length<=cs.size:=by
  rw [Rg,List.length_replicate,p2,Nat.add_zero,<-Nat.add_mul]
  exact Nat.mul_le_mul_right sz (by omega)
 have jI:=run_storeCells_at (P:=P) (g.ob k) (off*sz) ty news 0 cs w p1 en afL
 rw [Nat.add_zero] at jI
 refine⟨.tuple #[],_,g,.inl ?_,.bc rfl (fun i a x h=>by simp at h),cZ,hE⟩
 have cu:(execOp q.eval o).run P w=((Builtin.clear_ #[t] o.type #[q.eval u]).run P w).andThen fun v w'=>.ok (.value v) w':=by
  simp [execOp,ho,resolve,hc,fC,bD,invoke,builtin]
 rw [cu,e1]
 obtain⟨cF,rfl⟩:∃ l,len=l+1:=⟨len - 1,by omega⟩
 rw [p_] at jI
 simp [Builtin.clear_,run_underlying hu,m7 Lc,jI,p_]
end
def DC (q:dz) (f:Nat->AV) (s:XS):Option (AV × XS):=match q with
 |.jo z by_ l c=>match l.ev f,c.ev f with
  |.v (.int _ i),.v (.int _ j)=>match decide (0<=i/\i < j/\j*by_<=35184372088832/\j<=9223372036854775807) && !ee s.yk s.nx with
   |true=>some (.ob s.nx z.length 0 i.toNat none,kG s (.arr z.length (List.replicate j.toNat z) 0 true))
   |false=>none
  |_,_=>none
 |.slice (.sl m) x lo hi none=>match x.ev f with
  |.ob k sz off len none=>match (eI s).get k,jz f lo 0,jz f hi len with
   |some (.arr sz' rows _ _),some l,some h=>match Nat.beq sz' sz && Nat.beq m sz && decide (0<=l/\l < h/\(len:Int) < h/\off+h<=rows.length) with
    |true=>some (.ob k sz (off+l.toNat) (h.toNat - l.toNat) none,s)
    |false=>none
   |_,_,_=>none
  |_=>none
 |.ti z x=>match x.ev f with
  |.ob k sz off len _=>match (eI s).get k with
   |some (.arr sz' rows fz ex)=>match Nat.beq sz' sz && Nat.beq z.length sz && fT cn z && Nat.ble (off+len) rows.length && Nat.ble fz off && Nat.blt 0 len with
    |true=>some (.bc [],l5 s k (some (.arr sz (rows.take off++List.replicate len z++rows.drop (off+len)) fz ex)))
    |false=>none
   |_=>none
  |_=>none
 |.append sz by_ a b=>match a.ev f with
  |.ob k sz' 0 len none=>match (eI s).get k,dv (eI s) (b.ev f) with
   |some (.arr gn rows fz ex),some (x::more)=>match Nat.beq gn sz && Nat.beq sz' sz && Nat.ble (len+(x::more).length) rows.length && Nat.ble fz len && jT sz (x::more) && rq cn (x::more) with
    |true=>some (.ob k sz 0 (len+(x::more).length) none,l5 s k (some (.arr sz (rows.take len++(x::more)++rows.drop (len+(x::more).length)) fz ex)))
    |false=>none
   |_,_=>none
  |_=>none
 |.copy sz a b=>match a.ev f with
  |.ob k sz' off len _=>match dv (eI s) (b.ev f) with
   |some []=>some (.v (.int .i64 0),s)
   |some (x::more)=>match (eI s).get k with
    |some (.arr gn rows fz ex)=>match Nat.beq gn sz && Nat.beq sz' sz && Nat.ble (x::more).length len && Nat.ble (off+len) rows.length && Nat.ble fz off && jT sz (x::more) && rq cn (x::more) with
     |true=>some (.v (.int .i64 (x::more).length),l5 s k (some (.arr sz (rows.take off++(x::more)++rows.drop (off+(x::more).length)) fz ex)))
     |false=>none
    |_=>none
   |none=>none
  |_=>none
 |_=>none
section
variable {P:Program}{w0:World}{s s':XS}{r:AV}
theorem Ld {q:dz}{f:Nat->AV}{df:List DE}(h:DC q f s=some (r,s')):(∀ J,ad P w0 false q ⟨f,df⟩ (den J s) r (den J s'))/\dX s s'/\s'.lg=s.lg:=by
 cases q with
 |jo z by_ l c =>
  simp only [DC] at h
  split at h
  ·rename_i k1 i k2 j hl hc
   split at h
   ·rename_i hd
    simp only [Bool.and_eq_true,Bool.not_eq_true'] at hd
    have dT:=of_decide_eq_true hd.1
    simp only [Option.some.injEq,Prod.mk.injEq] at h
    obtain⟨rfl,rfl⟩:=h
    refine⟨fun J=>?_,.nw,rfl⟩
    rw [iO hd.2]
    exact ad.V0 hl hc dT.1 (by omega) dT.2.2.1 dT.2.2.2
   ·cases h
  ·cases h
 |slice k x lo hi mx =>
  cases k with
  |str=>cases h
  |sl m =>
   cases mx with
   |some mx=>cases h
   |none =>
    simp only [DC] at h
    split at h
    ·rename_i k sz off len hx
     split at h
     ·rename_i sz' rows fz ex l hh hk hl tj
      split at h
      ·rename_i hc
       simp only [Bool.and_eq_true] at hc
       obtain⟨⟨h1,h2⟩,h3⟩:=hc
       have h1:=Nat.eq_of_beq_eq_true h1
       have h2:=Nat.eq_of_beq_eq_true h2
       have h3:=of_decide_eq_true h3
       subst h1
       simp only [Option.some.injEq,Prod.mk.injEq] at h
       obtain⟨rfl,rfl⟩:=h
       exact⟨fun J=>ad.afK hx (dA (J:=J) hk).1 h2 hl tj h3.1 h3.2.1 (by omega),.refl _,rfl⟩
      ·cases h
     ·cases h
    ·cases h
 |ti z x =>
  simp only [DC] at h
  split at h
  ·rename_i k sz off len cx hx
   split at h
   ·rename_i sz' rows fz ex hk
    split at h
    ·rename_i hc
     simp only [Bool.and_eq_true] at hc
     obtain⟨⟨⟨⟨⟨h1,h2⟩,h3⟩,h4⟩,h5⟩,h6⟩:=hc
     have h1:=Nat.eq_of_beq_eq_true h1
     subst h1
     simp only [Option.some.injEq,Prod.mk.injEq] at h
     obtain⟨rfl,rfl⟩:=h
     refine⟨fun J=>?_,.wr,rfl⟩
     obtain⟨ez,dD⟩:=dA (J:=J) hk
     rw [kH dD]
     exact ad.Wh hx ez (Nat.eq_of_beq_eq_true h2) h3 (Nat.le_of_ble_eq_true h4) (Nat.le_of_ble_eq_true h5) (dZ h6)
    ·cases h
   ·cases h
  ·cases h
 |append sz by_ a b =>
  simp only [DC] at h
  split at h
  ·rename_i k sz' len ha
   split at h
   ·rename_i gn rows fz ex x more hk hm
    split at h
    ·rename_i hc
     simp only [Bool.and_eq_true] at hc
     obtain⟨⟨⟨⟨⟨h1,h2⟩,h3⟩,h4⟩,h5⟩,h6⟩:=hc
     have h1:=Nat.eq_of_beq_eq_true h1
     have h2:=Nat.eq_of_beq_eq_true h2
     subst h1 h2
     simp only [Option.some.injEq,Prod.mk.injEq] at h
     obtain⟨rfl,rfl⟩:=h
     refine⟨fun J=>?_,.wr,rfl⟩
     obtain⟨ez,dD⟩:=dA (J:=J) hk
     rw [kH dD]
     exact ad.V1 ha ez (ic hm) (Nat.le_of_ble_eq_true h4) (Nat.le_of_ble_eq_true h3) (fun row hr=>⟨fk h5 row hr,List.all_eq_true.2 (ku h6 row hr)⟩)
    ·cases h
   ·cases h
  ·cases h
 |copy sz a b =>
  simp only [DC] at h
  split at h
  ·rename_i k sz' off len cx ha
   split at h
   ·rename_i hm
    simp only [Option.some.injEq,Prod.mk.injEq] at h
    obtain⟨rfl,rfl⟩:=h
    exact⟨fun J=>ad.VZ ha (ic hm),.refl _,rfl⟩
   ·rename_i x more hm
    split at h
    ·rename_i gn rows fz ex hk
     split at h
     ·rename_i hc
      simp only [Bool.and_eq_true] at hc
      obtain⟨⟨⟨⟨⟨⟨h1,h2⟩,h3⟩,h4⟩,h5⟩,h6⟩,h7⟩:=hc
      have h1:=Nat.eq_of_beq_eq_true h1
      have h2:=Nat.eq_of_beq_eq_true h2
      subst h1 h2
      simp only [Option.some.injEq,Prod.mk.injEq] at h
      obtain⟨rfl,rfl⟩:=h
      refine⟨fun J=>?_,.wr,rfl⟩
      obtain⟨ez,dD⟩:=dA (J:=J) hk
      rw [kH dD]
      exact ad.cpy ha ez (ic hm) (Nat.le_of_ble_eq_true h3) (Nat.le_of_ble_eq_true h4) (Nat.le_of_ble_eq_true h5) (fun row hr=>⟨fk h6 row hr,List.all_eq_true.2 (ku h7 row hr)⟩)
     ·cases h
    ·cases h
   ·cases h
  ·cases h
 |_=>cases h
end
end Go.Proofs.YtgphljokbodciaaGreat
